/-
  No cell of these rows narrows 'for every input' (looked for: loops, veiled, ifaces, maps, wideKeys, modest, calm, conditions, laid).
  DERIVED. THE GIVEN ROWS OF THIS SEAT. 4 by the template 'for every input the law returns true; each argument reads behind the call as it read before'; 0 by the template 'total and deterministic' (their statements: YtipklnakihinkaaTotals.lean).
  GIVEN WITH THE SEED: the statements are not yours to turn. If you find one false, say at which input.
  Laid BY PROGRAM, IN A SANDBOX (cutbox-rows.mjs): the forced cells as the released guide's own fill.sh prints them over the translation a9d928636533ca91… (all of the seat's roots in one cut). By AI agents, Wed Nov 11 2026. No macro, syntax, notation, axiom, sorry.
-/
import Derived.Test.YtipklnakihinkaaChecked
import GoSem.Claim
import GoSem.ClaimJoined
import GoSem.ClaimMapViews
import Derived.JoinedTies
import Derived.KernelRfl
namespace Go.Proofs.Ytipklnakihinkaa
/- THE CELL 'sum', in the pinned program and in every row, IS THE sha256 OF THE DUMP (.gsa) THAT YtipklnakihinkaaProg.lean LOADS. Nothing in Lean hashes anything: it is a label: what it is worth is what the hold of that sum in a sandbox is worth. -/
noncomputable def Try.pinned : Pinned := { name := "ytipklnakihinkaa", sum := "a9d928636533ca91c3783a721ccdae0f40608afa74a1ff19bd0de68bcab49719", checked := Try.checked }
namespace Rows
def none {H : Type} : Left H := { results := [], args := [] }

/-- 'agoralaw46.OutboxArrives': WHATEVER THE INPUT: true; the input reads as it did. -/
def outboxArrivesSpec : ChangeSpec := { name := "outboxArrives", fn := fun _ => fun
  | [d1, d2, d3, d4, d5] => { results := [.lit (.bool true)], args := [d1, d2, d3, d4, d5] }
  | _ => none }
def outboxArrivesRow : OpenClaim := { program := "ytipklnakihinkaa", sum := "a9d928636533ca91c3783a721ccdae0f40608afa74a1ff19bd0de68bcab49719", func := "agora/agoralaw46.OutboxArrives", spec := "outboxArrives", plainKeys := false, apart := false }
def OutboxArrivesSaid : Prop := outboxArrivesRow.holds Try.pinned (OpenSpec.ofChange outboxArrivesSpec)

/-- ITS FALSE NEIGHBOUR: 'it returns false'. Refute it at one input. -/
def outboxArrivesWrong : ChangeSpec := { name := "outboxArrives", fn := fun _ => fun
  | [d1, d2, d3, d4, d5] => { results := [.lit (.bool false)], args := [d1, d2, d3, d4, d5] }
  | _ => none }
def OutboxArrivesWrongFalsely : Prop := outboxArrivesRow.holds Try.pinned (OpenSpec.ofChange outboxArrivesWrong)

/-- 'agoralaw46.OutboxWaits': WHATEVER THE INPUT: true; the input reads as it did. -/
def outboxWaitsSpec : ChangeSpec := { name := "outboxWaits", fn := fun _ => fun
  | [d1, d2, d3, d4, d5] => { results := [.lit (.bool true)], args := [d1, d2, d3, d4, d5] }
  | _ => none }
def outboxWaitsRow : OpenClaim := { program := "ytipklnakihinkaa", sum := "a9d928636533ca91c3783a721ccdae0f40608afa74a1ff19bd0de68bcab49719", func := "agora/agoralaw46.OutboxWaits", spec := "outboxWaits", plainKeys := false, apart := false }
def OutboxWaitsSaid : Prop := outboxWaitsRow.holds Try.pinned (OpenSpec.ofChange outboxWaitsSpec)

/-- ITS FALSE NEIGHBOUR: 'it returns false'. Refute it at one input. -/
def outboxWaitsWrong : ChangeSpec := { name := "outboxWaits", fn := fun _ => fun
  | [d1, d2, d3, d4, d5] => { results := [.lit (.bool false)], args := [d1, d2, d3, d4, d5] }
  | _ => none }
def OutboxWaitsWrongFalsely : Prop := outboxWaitsRow.holds Try.pinned (OpenSpec.ofChange outboxWaitsWrong)

/-- 'agoralaw46.OutboxMoves': WHATEVER THE INPUT: true; the input reads as it did. -/
def outboxMovesSpec : ChangeSpec := { name := "outboxMoves", fn := fun _ => fun
  | [d1, d2, d3] => { results := [.lit (.bool true)], args := [d1, d2, d3] }
  | _ => none }
def outboxMovesRow : OpenClaim := { program := "ytipklnakihinkaa", sum := "a9d928636533ca91c3783a721ccdae0f40608afa74a1ff19bd0de68bcab49719", func := "agora/agoralaw46.OutboxMoves", spec := "outboxMoves", plainKeys := false, apart := false }
def OutboxMovesSaid : Prop := outboxMovesRow.holds Try.pinned (OpenSpec.ofChange outboxMovesSpec)

/-- ITS FALSE NEIGHBOUR: 'it returns false'. Refute it at one input. -/
def outboxMovesWrong : ChangeSpec := { name := "outboxMoves", fn := fun _ => fun
  | [d1, d2, d3] => { results := [.lit (.bool false)], args := [d1, d2, d3] }
  | _ => none }
def OutboxMovesWrongFalsely : Prop := outboxMovesRow.holds Try.pinned (OpenSpec.ofChange outboxMovesWrong)

/-- 'agoralaw46.OutboxBudget': WHATEVER THE INPUT: true; the input reads as it did. -/
def outboxBudgetSpec : ChangeSpec := { name := "outboxBudget", fn := fun _ => fun
  | [d1, d2, d3, d4, d5] => { results := [.lit (.bool true)], args := [d1, d2, d3, d4, d5] }
  | _ => none }
def outboxBudgetRow : OpenClaim := { program := "ytipklnakihinkaa", sum := "a9d928636533ca91c3783a721ccdae0f40608afa74a1ff19bd0de68bcab49719", func := "agora/agoralaw46.OutboxBudget", spec := "outboxBudget", plainKeys := false, apart := false }
def OutboxBudgetSaid : Prop := outboxBudgetRow.holds Try.pinned (OpenSpec.ofChange outboxBudgetSpec)

/-- ITS FALSE NEIGHBOUR: 'it returns false'. Refute it at one input. -/
def outboxBudgetWrong : ChangeSpec := { name := "outboxBudget", fn := fun _ => fun
  | [d1, d2, d3, d4, d5] => { results := [.lit (.bool false)], args := [d1, d2, d3, d4, d5] }
  | _ => none }
def OutboxBudgetWrongFalsely : Prop := outboxBudgetRow.holds Try.pinned (OpenSpec.ofChange outboxBudgetWrong)

/- THE SECOND FORM. 'bulk': how many values and letters a reading holds, each counted each time it is reached (what is shared counts as often as it is met; a slice's spare places count too). A statement '..UptoSaid' is the law's where the arguments, and the package variables that the reading takes, are together of bulk at most 1048576: NARROWER than '..Said'. Prove '..Said' where nothing that the law and all that it calls make is longer than what came in: it says more and counts as full. Else prove '..UptoSaid'. A law counts once. -/
mutual
def uptoBulk {H : Type} : DataW H → Nat
  | .lit (.string bytes) => bytes.length + 1
  | .lit _ => 1
  | .nil => 1
  | .ptr d => uptoBulk d + 1
  | .slice elems spare => uptoBulkAll elems + uptoBulkAll spare + 1
  | .agg parts => uptoBulkAll parts + 1
  | .iface _ d => uptoBulk d + 1
  | .map entries => uptoBulkEntries entries + 1
  | .held _ => 1
def uptoBulkAll {H : Type} : List (DataW H) → Nat
  | [] => 0
  | d :: r => uptoBulk d + uptoBulkAll r
def uptoBulkEntries {H : Type} : List (Lit × DataW H) → Nat
  | [] => 0
  | x :: r => uptoBulkEntry x + uptoBulkEntries r
def uptoBulkEntry {H : Type} : Lit × DataW H → Nat
  | (.string bytes, d) => bytes.length + uptoBulk d + 1
  | (_, d) => uptoBulk d + 1
 end
def uptoSmall : (H : Type) → List (DataW H) → Bool := fun _ ds => decide (uptoBulkAll ds ≤ 1048576)
def OpenSpec.upto (s : _root_.Go.ChangeSpec) : _root_.Go.OpenSpec := { _root_.Go.OpenSpec.ofChange s with cond := some uptoSmall }

/-- 'agoralaw46.OutboxArrives', WHERE WHAT IT READS IS OF BULK AT MOST 1048576: true; the input reads as it did. -/
def outboxArrivesUptoRow : OpenClaim := { program := "ytipklnakihinkaa", sum := "a9d928636533ca91c3783a721ccdae0f40608afa74a1ff19bd0de68bcab49719", func := "agora/agoralaw46.OutboxArrives", spec := "outboxArrives", plainKeys := false, apart := false, narrowed := true }
def OutboxArrivesUptoSaid : Prop := outboxArrivesUptoRow.holds Try.pinned (OpenSpec.upto outboxArrivesSpec)

/-- 'agoralaw46.OutboxWaits', WHERE WHAT IT READS IS OF BULK AT MOST 1048576: true; the input reads as it did. -/
def outboxWaitsUptoRow : OpenClaim := { program := "ytipklnakihinkaa", sum := "a9d928636533ca91c3783a721ccdae0f40608afa74a1ff19bd0de68bcab49719", func := "agora/agoralaw46.OutboxWaits", spec := "outboxWaits", plainKeys := false, apart := false, narrowed := true }
def OutboxWaitsUptoSaid : Prop := outboxWaitsUptoRow.holds Try.pinned (OpenSpec.upto outboxWaitsSpec)

/-- 'agoralaw46.OutboxMoves', WHERE WHAT IT READS IS OF BULK AT MOST 1048576: true; the input reads as it did. -/
def outboxMovesUptoRow : OpenClaim := { program := "ytipklnakihinkaa", sum := "a9d928636533ca91c3783a721ccdae0f40608afa74a1ff19bd0de68bcab49719", func := "agora/agoralaw46.OutboxMoves", spec := "outboxMoves", plainKeys := false, apart := false, narrowed := true }
def OutboxMovesUptoSaid : Prop := outboxMovesUptoRow.holds Try.pinned (OpenSpec.upto outboxMovesSpec)

/-- 'agoralaw46.OutboxBudget', WHERE WHAT IT READS IS OF BULK AT MOST 1048576: true; the input reads as it did. -/
def outboxBudgetUptoRow : OpenClaim := { program := "ytipklnakihinkaa", sum := "a9d928636533ca91c3783a721ccdae0f40608afa74a1ff19bd0de68bcab49719", func := "agora/agoralaw46.OutboxBudget", spec := "outboxBudget", plainKeys := false, apart := false, narrowed := true }
def OutboxBudgetUptoSaid : Prop := outboxBudgetUptoRow.holds Try.pinned (OpenSpec.upto outboxBudgetSpec)

end Rows
end Go.Proofs.Ytipklnakihinkaa

/-
  No cell of these rows narrows 'for every input' (looked for: loops, veiled, ifaces, maps, wideKeys, modest, calm, conditions, laid).
  DERIVED. THE GIVEN ROWS OF THIS SEAT. 7 by the template 'for every input the law returns true; each argument reads behind the call as it read before'; 0 by the template 'total and deterministic' (their statements: YtckgnmloemnkcaaTotals.lean).
  GIVEN WITH THE SEED: the statements are not yours to turn. If you find one false, say at which input.
  Laid BY PROGRAM, IN A SANDBOX (cutbox-rows.mjs): the forced cells as the released guide's own fill.sh prints them over the translation 01c6f5e9323b41cc… (all of the seat's roots in one cut). By AI agents, Wed Nov 11 2026. No macro, syntax, notation, axiom, sorry.
-/
import Derived.Test.YtckgnmloemnkcaaChecked
import GoSem.Claim
import GoSem.ClaimJoined
import GoSem.ClaimMapViews
import Derived.JoinedTies
import Derived.KernelRfl
namespace Go.Proofs.Ytckgnmloemnkcaa
/- THE CELL 'sum', in the pinned program and in every row, IS THE sha256 OF THE DUMP (.gsa) THAT YtckgnmloemnkcaaProg.lean LOADS. Nothing in Lean hashes anything: it is a label: what it is worth is what the hold of that sum in a sandbox is worth. -/
noncomputable def Try.pinned : Pinned := { name := "ytckgnmloemnkcaa", sum := "01c6f5e9323b41cc575c901a8ec91571f4dde59aa8772d770ee03aea00bc3d4a", checked := Try.checked }
namespace Rows
def none {H : Type} : Left H := { results := [], args := [] }

/-- 'agoralaw02.CodeWrites': WHATEVER THE INPUT: true; the input reads as it did. -/
def codeWritesSpec : ChangeSpec := { name := "codeWrites", fn := fun _ => fun
  | [d1, d2, d3, d4] => { results := [.lit (.bool true)], args := [d1, d2, d3, d4] }
  | _ => none }
def codeWritesRow : OpenClaim := { program := "ytckgnmloemnkcaa", sum := "01c6f5e9323b41cc575c901a8ec91571f4dde59aa8772d770ee03aea00bc3d4a", func := "agora/agoralaw02.CodeWrites", spec := "codeWrites", unfollowed := true, recurses := true, apart := false }
def CodeWritesSaid : Prop := codeWritesRow.holds Try.pinned (OpenSpec.ofChange codeWritesSpec)

/-- ITS FALSE NEIGHBOUR: 'it returns false'. Refute it at one input. -/
def codeWritesWrong : ChangeSpec := { name := "codeWrites", fn := fun _ => fun
  | [d1, d2, d3, d4] => { results := [.lit (.bool false)], args := [d1, d2, d3, d4] }
  | _ => none }
def CodeWritesWrongFalsely : Prop := codeWritesRow.holds Try.pinned (OpenSpec.ofChange codeWritesWrong)

/-- 'agoralaw02.CodeReads': WHATEVER THE INPUT: true; the input reads as it did. -/
def codeReadsSpec : ChangeSpec := { name := "codeReads", fn := fun _ => fun
  | [d1, d2] => { results := [.lit (.bool true)], args := [d1, d2] }
  | _ => none }
def codeReadsRow : OpenClaim := { program := "ytckgnmloemnkcaa", sum := "01c6f5e9323b41cc575c901a8ec91571f4dde59aa8772d770ee03aea00bc3d4a", func := "agora/agoralaw02.CodeReads", spec := "codeReads", unfollowed := true, recurses := true, apart := false }
def CodeReadsSaid : Prop := codeReadsRow.holds Try.pinned (OpenSpec.ofChange codeReadsSpec)

/-- ITS FALSE NEIGHBOUR: 'it returns false'. Refute it at one input. -/
def codeReadsWrong : ChangeSpec := { name := "codeReads", fn := fun _ => fun
  | [d1, d2] => { results := [.lit (.bool false)], args := [d1, d2] }
  | _ => none }
def CodeReadsWrongFalsely : Prop := codeReadsRow.holds Try.pinned (OpenSpec.ofChange codeReadsWrong)

/-- 'agoralaw02.CodeBack': WHATEVER THE INPUT: true; the input reads as it did. -/
def codeBackSpec : ChangeSpec := { name := "codeBack", fn := fun _ => fun
  | [d1, d2] => { results := [.lit (.bool true)], args := [d1, d2] }
  | _ => none }
def codeBackRow : OpenClaim := { program := "ytckgnmloemnkcaa", sum := "01c6f5e9323b41cc575c901a8ec91571f4dde59aa8772d770ee03aea00bc3d4a", func := "agora/agoralaw02.CodeBack", spec := "codeBack", unfollowed := true, recurses := true, apart := false }
def CodeBackSaid : Prop := codeBackRow.holds Try.pinned (OpenSpec.ofChange codeBackSpec)

/-- ITS FALSE NEIGHBOUR: 'it returns false'. Refute it at one input. -/
def codeBackWrong : ChangeSpec := { name := "codeBack", fn := fun _ => fun
  | [d1, d2] => { results := [.lit (.bool false)], args := [d1, d2] }
  | _ => none }
def CodeBackWrongFalsely : Prop := codeBackRow.holds Try.pinned (OpenSpec.ofChange codeBackWrong)

/-- 'agoralaw02.CodeAgain': WHATEVER THE INPUT: true; the input reads as it did. -/
def codeAgainSpec : ChangeSpec := { name := "codeAgain", fn := fun _ => fun
  | [d1, d2] => { results := [.lit (.bool true)], args := [d1, d2] }
  | _ => none }
def codeAgainRow : OpenClaim := { program := "ytckgnmloemnkcaa", sum := "01c6f5e9323b41cc575c901a8ec91571f4dde59aa8772d770ee03aea00bc3d4a", func := "agora/agoralaw02.CodeAgain", spec := "codeAgain", unfollowed := true, recurses := true, apart := false }
def CodeAgainSaid : Prop := codeAgainRow.holds Try.pinned (OpenSpec.ofChange codeAgainSpec)

/-- ITS FALSE NEIGHBOUR: 'it returns false'. Refute it at one input. -/
def codeAgainWrong : ChangeSpec := { name := "codeAgain", fn := fun _ => fun
  | [d1, d2] => { results := [.lit (.bool false)], args := [d1, d2] }
  | _ => none }
def CodeAgainWrongFalsely : Prop := codeAgainRow.holds Try.pinned (OpenSpec.ofChange codeAgainWrong)

/-- 'agoralaw02.CodeCut': WHATEVER THE INPUT: true; the input reads as it did. -/
def codeCutSpec : ChangeSpec := { name := "codeCut", fn := fun _ => fun
  | [d1, d2] => { results := [.lit (.bool true)], args := [d1, d2] }
  | _ => none }
def codeCutRow : OpenClaim := { program := "ytckgnmloemnkcaa", sum := "01c6f5e9323b41cc575c901a8ec91571f4dde59aa8772d770ee03aea00bc3d4a", func := "agora/agoralaw02.CodeCut", spec := "codeCut", unfollowed := true, recurses := true, apart := false }
def CodeCutSaid : Prop := codeCutRow.holds Try.pinned (OpenSpec.ofChange codeCutSpec)

/-- ITS FALSE NEIGHBOUR: 'it returns false'. Refute it at one input. -/
def codeCutWrong : ChangeSpec := { name := "codeCut", fn := fun _ => fun
  | [d1, d2] => { results := [.lit (.bool false)], args := [d1, d2] }
  | _ => none }
def CodeCutWrongFalsely : Prop := codeCutRow.holds Try.pinned (OpenSpec.ofChange codeCutWrong)

/-- 'agoralaw02.CodePrefix': WHATEVER THE INPUT: true; the input reads as it did. -/
def codePrefixSpec : ChangeSpec := { name := "codePrefix", fn := fun _ => fun
  | [d1, d2] => { results := [.lit (.bool true)], args := [d1, d2] }
  | _ => none }
def codePrefixRow : OpenClaim := { program := "ytckgnmloemnkcaa", sum := "01c6f5e9323b41cc575c901a8ec91571f4dde59aa8772d770ee03aea00bc3d4a", func := "agora/agoralaw02.CodePrefix", spec := "codePrefix", unfollowed := true, recurses := true, apart := false }
def CodePrefixSaid : Prop := codePrefixRow.holds Try.pinned (OpenSpec.ofChange codePrefixSpec)

/-- ITS FALSE NEIGHBOUR: 'it returns false'. Refute it at one input. -/
def codePrefixWrong : ChangeSpec := { name := "codePrefix", fn := fun _ => fun
  | [d1, d2] => { results := [.lit (.bool false)], args := [d1, d2] }
  | _ => none }
def CodePrefixWrongFalsely : Prop := codePrefixRow.holds Try.pinned (OpenSpec.ofChange codePrefixWrong)

/-- 'agoralaw02.CodeLengths': WHATEVER THE INPUT: true; the input reads as it did. -/
def codeLengthsSpec : ChangeSpec := { name := "codeLengths", fn := fun _ => fun
  | [d] => { results := [.lit (.bool true)], args := [d] }
  | _ => none }
def codeLengthsRow : OpenClaim := { program := "ytckgnmloemnkcaa", sum := "01c6f5e9323b41cc575c901a8ec91571f4dde59aa8772d770ee03aea00bc3d4a", func := "agora/agoralaw02.CodeLengths", spec := "codeLengths", unfollowed := true, recurses := true, apart := false }
def CodeLengthsSaid : Prop := codeLengthsRow.holds Try.pinned (OpenSpec.ofChange codeLengthsSpec)

/-- ITS FALSE NEIGHBOUR: 'it returns false'. Refute it at one input. -/
def codeLengthsWrong : ChangeSpec := { name := "codeLengths", fn := fun _ => fun
  | [d] => { results := [.lit (.bool false)], args := [d] }
  | _ => none }
def CodeLengthsWrongFalsely : Prop := codeLengthsRow.holds Try.pinned (OpenSpec.ofChange codeLengthsWrong)

/- THE SECOND FORM. 'bulk': how many values and letters a reading holds, each counted each time it is reached (what is shared counts as often as it is met; a slice's spare places count too). A statement '..UptoSaid' is the law's where the arguments, and the package variables that the reading takes, are together of bulk at most 1048576: NARROWER than '..Said'. Prove '..Said' where nothing that the law and all that it calls make is longer than what came in: it says more and counts as full. Else prove '..UptoSaid'. A law counts once. -/
mutual
def uptoBulk {H : Type} : DataW H → Nat
  | .lit (.string bytes) => bytes.length + 1
  | .lit _ => 1
  | .nil => 1
  | .ptr d => uptoBulk d + 1
  | .slice elems spare => uptoBulkAll elems + uptoBulkAll spare + 1
  | .agg parts => uptoBulkAll parts + 1
  | .iface _ d => uptoBulk d + 1
  | .map entries => uptoBulkEntries entries + 1
  | .held _ => 1
def uptoBulkAll {H : Type} : List (DataW H) → Nat
  | [] => 0
  | d :: r => uptoBulk d + uptoBulkAll r
def uptoBulkEntries {H : Type} : List (Lit × DataW H) → Nat
  | [] => 0
  | x :: r => uptoBulkEntry x + uptoBulkEntries r
def uptoBulkEntry {H : Type} : Lit × DataW H → Nat
  | (.string bytes, d) => bytes.length + uptoBulk d + 1
  | (_, d) => uptoBulk d + 1
 end
def uptoSmall : (H : Type) → List (DataW H) → Bool := fun _ ds => decide (uptoBulkAll ds ≤ 1048576)
def OpenSpec.upto (s : _root_.Go.ChangeSpec) : _root_.Go.OpenSpec := { _root_.Go.OpenSpec.ofChange s with cond := some uptoSmall }

/-- 'agoralaw02.CodeWrites', WHERE WHAT IT READS IS OF BULK AT MOST 1048576: true; the input reads as it did. -/
def codeWritesUptoRow : OpenClaim := { program := "ytckgnmloemnkcaa", sum := "01c6f5e9323b41cc575c901a8ec91571f4dde59aa8772d770ee03aea00bc3d4a", func := "agora/agoralaw02.CodeWrites", spec := "codeWrites", unfollowed := true, recurses := true, apart := false, narrowed := true }
def CodeWritesUptoSaid : Prop := codeWritesUptoRow.holds Try.pinned (OpenSpec.upto codeWritesSpec)

/-- 'agoralaw02.CodeReads', WHERE WHAT IT READS IS OF BULK AT MOST 1048576: true; the input reads as it did. -/
def codeReadsUptoRow : OpenClaim := { program := "ytckgnmloemnkcaa", sum := "01c6f5e9323b41cc575c901a8ec91571f4dde59aa8772d770ee03aea00bc3d4a", func := "agora/agoralaw02.CodeReads", spec := "codeReads", unfollowed := true, recurses := true, apart := false, narrowed := true }
def CodeReadsUptoSaid : Prop := codeReadsUptoRow.holds Try.pinned (OpenSpec.upto codeReadsSpec)

/-- 'agoralaw02.CodeBack', WHERE WHAT IT READS IS OF BULK AT MOST 1048576: true; the input reads as it did. -/
def codeBackUptoRow : OpenClaim := { program := "ytckgnmloemnkcaa", sum := "01c6f5e9323b41cc575c901a8ec91571f4dde59aa8772d770ee03aea00bc3d4a", func := "agora/agoralaw02.CodeBack", spec := "codeBack", unfollowed := true, recurses := true, apart := false, narrowed := true }
def CodeBackUptoSaid : Prop := codeBackUptoRow.holds Try.pinned (OpenSpec.upto codeBackSpec)

/-- 'agoralaw02.CodeAgain', WHERE WHAT IT READS IS OF BULK AT MOST 1048576: true; the input reads as it did. -/
def codeAgainUptoRow : OpenClaim := { program := "ytckgnmloemnkcaa", sum := "01c6f5e9323b41cc575c901a8ec91571f4dde59aa8772d770ee03aea00bc3d4a", func := "agora/agoralaw02.CodeAgain", spec := "codeAgain", unfollowed := true, recurses := true, apart := false, narrowed := true }
def CodeAgainUptoSaid : Prop := codeAgainUptoRow.holds Try.pinned (OpenSpec.upto codeAgainSpec)

/-- 'agoralaw02.CodeCut', WHERE WHAT IT READS IS OF BULK AT MOST 1048576: true; the input reads as it did. -/
def codeCutUptoRow : OpenClaim := { program := "ytckgnmloemnkcaa", sum := "01c6f5e9323b41cc575c901a8ec91571f4dde59aa8772d770ee03aea00bc3d4a", func := "agora/agoralaw02.CodeCut", spec := "codeCut", unfollowed := true, recurses := true, apart := false, narrowed := true }
def CodeCutUptoSaid : Prop := codeCutUptoRow.holds Try.pinned (OpenSpec.upto codeCutSpec)

/-- 'agoralaw02.CodePrefix', WHERE WHAT IT READS IS OF BULK AT MOST 1048576: true; the input reads as it did. -/
def codePrefixUptoRow : OpenClaim := { program := "ytckgnmloemnkcaa", sum := "01c6f5e9323b41cc575c901a8ec91571f4dde59aa8772d770ee03aea00bc3d4a", func := "agora/agoralaw02.CodePrefix", spec := "codePrefix", unfollowed := true, recurses := true, apart := false, narrowed := true }
def CodePrefixUptoSaid : Prop := codePrefixUptoRow.holds Try.pinned (OpenSpec.upto codePrefixSpec)

/-- 'agoralaw02.CodeLengths', WHERE WHAT IT READS IS OF BULK AT MOST 1048576: true; the input reads as it did. -/
def codeLengthsUptoRow : OpenClaim := { program := "ytckgnmloemnkcaa", sum := "01c6f5e9323b41cc575c901a8ec91571f4dde59aa8772d770ee03aea00bc3d4a", func := "agora/agoralaw02.CodeLengths", spec := "codeLengths", unfollowed := true, recurses := true, apart := false, narrowed := true }
def CodeLengthsUptoSaid : Prop := codeLengthsUptoRow.holds Try.pinned (OpenSpec.upto codeLengthsSpec)

end Rows
end Go.Proofs.Ytckgnmloemnkcaa

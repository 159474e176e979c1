/- RankSorts at what the row opens. -/
import Derived.Test.YtjcaaiikccnpeaaDoorRSorts
import Derived.Test.YtjcaaiikccnpeaaDoorOpenC
namespace Go.Proofs.YtjcaaiikccnpeaaDoor
open Go.ChangeShapes Go.WideShapes Go.ChangeAt Go.RowKit Go.Lib
set_option linter.unusedVariables false

theorem rsorts_card (l : List Card) (A : Option Addr) (C : Nat) (w : World) (hl : CRow w A l) (hw : ∀ t, t ∈ l → t.Wf) (hn : l.length ≤ 9223372036854775807) (hL : LaidA w) : Calls Tryd.prog 6 #[.slice A l.length C] w (BoolPost w true) := rsorts_any l A C w hl hL
end Go.Proofs.YtjcaaiikccnpeaaDoor

import Derived.Test.YtdlkcjkjnehnkaaGreatDoorG38
import Derived.Test.YtdlkcjkjnehnkaaGreatDoorG19
namespace Go.Proofs.YtdlkcjkjnehnkaaGreatDoor
open Go Go.Lib
open Go.ChangeShapes Go.WideShapes Go.ChangeAt Go.RowKit Go.Lib
open Go.RowKit
open Go
open _root_.Go.Proofs.Tryz
set_option linter.all false
set_option maxRecDepth 100000
set_option maxHeartbeats 32000000
theorem parseM_ok {l:List UInt8} {ts:List Tok} (h:scanR l=(ts,0,0)):parseM l=(parseT (12*(ts.length+1)) ts).getD (noRule,0,0):=by
 unfold parseM; rw[h]; rfl
end Go.Proofs.YtdlkcjkjnehnkaaGreatDoor

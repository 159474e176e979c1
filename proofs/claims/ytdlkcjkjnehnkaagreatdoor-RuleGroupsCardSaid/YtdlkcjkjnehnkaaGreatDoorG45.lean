import Derived.Test.YtdlkcjkjnehnkaaGreatDoorG43
import Derived.Test.YtdlkcjkjnehnkaaGreatDoorG44
namespace Go.Proofs.YtdlkcjkjnehnkaaGreatDoor
open Go Go.Lib
open Go.ChangeShapes Go.WideShapes Go.ChangeAt Go.RowKit Go.Lib
open Go.RowKit
open Go
open _root_.Go.Proofs.Tryz
set_option linter.all false
set_option maxRecDepth 100000
set_option maxHeartbeats 32000000
theorem bs_append (a b:List UInt8):bs a++bs b=bs (a++b):=by
 apply ByteArray.ext;simp[bs]
end Go.Proofs.YtdlkcjkjnehnkaaGreatDoor

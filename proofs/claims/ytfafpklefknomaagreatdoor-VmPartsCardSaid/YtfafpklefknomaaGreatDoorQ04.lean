import Derived.Test.YtfafpklefknomaaGreatDoorQ03
namespace Go.Proofs.YtfafpklefknomaaGreatDoor
open Go Go.ChangeShapes Go.WideShapes Go.ChangeAt Go.RowKit Go.Lib
open _root_.Go.Proofs.Tryz
set_option linter.all false
set_option maxRecDepth 100000
set_option maxHeartbeats 40000000
abbrev cel3(W:World)(b:Nat)(x y z:Value):Prop:=W.cell? ⟨b,0,none⟩=some x/\W.cell? ⟨b,1,none⟩=some y/\W.cell? ⟨b,2,none⟩=some z
abbrev cel12(W:World)(b:Nat)(x0 x1 x2 x3 x4 x5 x6 x7 x8 x9 x10 x11:Value):Prop:=W.cell? ⟨b,0,none⟩=some x0/\W.cell? ⟨b,1,none⟩=some x1/\W.cell? ⟨b,2,none⟩=some x2/\W.cell? ⟨b,3,none⟩=some x3/\W.cell? ⟨b,4,none⟩=some x4/\W.cell? ⟨b,5,none⟩=some x5/\W.cell? ⟨b,6,none⟩=some x6/\W.cell? ⟨b,7,none⟩=some x7/\W.cell? ⟨b,8,none⟩=some x8/\W.cell? ⟨b,9,none⟩=some x9/\W.cell? ⟨b,10,none⟩=some x10/\W.cell? ⟨b,11,none⟩=some x11
def wtwelve{W:World}{b t:Nat}{x0 x1 x2 x3 x4 x5 x6 x7 x8 x9 x10 x11:Value}{fr:Nat×Nat}(h:W.heap[b]?=some (.cells #[x0,x1,x2,x3,x4,x5,x6,x7,x8,x9,x10,x11] t fr)):cel12 W b x0 x1 x2 x3 x4 x5 x6 x7 x8 x9 x10 x11:=
 ⟨Ja h 0,Ja h 1,Ja h 2,Ja h 3,Ja h 4,Ja h 5,Ja h 6,Ja h 7,Ja h 8,Ja h 9,Ja h 10,Ja h 11⟩
def vrunM_self(r:Qah)(F:Qaj):QbB r (Qai r) F=QdM r F:=by unfold QbB;rw[if_pos rfl]
end Go.Proofs.YtfafpklefknomaaGreatDoor




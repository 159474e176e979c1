/- LexSpaces: the walk with its arguments in the call's order. -/
import Derived.Test.YtjcobjikgakapaaDoorSpacesWalk
namespace Go.Proofs.YtjcobjikgakapaaDoor
theorem spaces_call (l : List UInt8) (n : Int) (sp : List UInt8) (w : World) (hl : l.length ≤ 281474976710656) (wn : wf64 n) (hsl : sp.length ≤ 281474976710656) (hL : Laid w) : Calls Tryd.prog 6 #[.string (bs l), .int .i64 n, .string (bs sp)] w (BoolPost w true) :=
  spaces_any l sp n w hl wn hsl hL
end Go.Proofs.YtjcobjikgakapaaDoor

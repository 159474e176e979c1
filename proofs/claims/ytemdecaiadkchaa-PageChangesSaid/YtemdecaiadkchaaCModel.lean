/- The encoding as plain mathematics: bytes are lists of UInt8. -/
namespace Go.Proofs.Ytemdecaiadkchaa

/-- the varint of a number, k digits at most -/
def numF : Nat → Nat → List UInt8
  | 0, _ => []
  | k + 1, n => if n < 128 then [UInt8.ofNat n] else UInt8.ofNat (128 + n % 128) :: numF k (n / 128)
/-- the varint of a number below 128^10 -/
def numL (n : Nat) : List UInt8 := numF 10 n
/-- what Num answers -/
def numI (n : Int) : List UInt8 := if n < 0 then [] else numL n.toNat
def zig (n : Int) : Nat := if n < 0 then (-2 * n - 1).toNat else (2 * n).toNat
def lim : Int := 2305843009213693952
def intI (n : Int) : List UInt8 := if n < -lim ∨ lim < n then [] else numL (zig n)
def textL (s : List UInt8) : List UInt8 := numL s.length ++ s
def listL (l : List (List UInt8)) : List UInt8 := numL l.length ++ l.flatMap textL
def numsL (l : List Int) : List UInt8 := numL l.length ++ l.flatMap intI

/-- a reader: its rest, and whether it has failed -/
structure Rd where
  rest : List UInt8
  bad : Bool
def Rd.fail : Rd := ⟨[], true⟩
/-- a varint at the front: its number and the rest; from digit i on, the digits before making n -/
def takeNum : Nat → Nat → Nat → List UInt8 → Option (Nat × List UInt8)
  | 0, _, _, _ => none
  | k + 1, i, n, l =>
    match l with
    | [] => none
    | d :: r =>
      if 128 ≤ d.toNat then takeNum k (i + 1) (n + (d.toNat - 128) * 128 ^ i) r
      else if d.toNat = 0 ∧ 0 < i then none
      else some (n + d.toNat * 128 ^ i, r)
def Rd.num (r : Rd) : Nat × Rd :=
  match takeNum 9 0 0 r.rest with
  | none => (0, Rd.fail)
  | some (n, rest) => (n, ⟨rest, r.bad⟩)
end Go.Proofs.Ytemdecaiadkchaa

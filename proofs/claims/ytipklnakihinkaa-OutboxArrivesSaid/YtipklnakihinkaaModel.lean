/- The outbox as plain mathematics: its state, and what each method answers. -/
namespace Go.Proofs.Ytipklnakihinkaa

structure Peer where
  due : Int
  waiting : Int
  gone : Bool
structure Send where
  peer : Int
  log : Int
  start : Int
  count : Int
structure BoxM where
  me : Int
  budget : Int
  l : List Peer
  m : Int → Int → Int

def clampI (n lo hi : Int) : Int := if n < lo then lo else if hi < n then hi else n
def clampT (n : Int) : Int := clampI n 0 1099511627776
def srvB (i : Int) (n : Nat) : Bool := decide (0 ≤ i ∧ i < n)
def BoxM.at_ (X : BoxM) (j : Nat) : Peer := X.l.getD j ⟨0, 0, false⟩
def BoxM.peerB (X : BoxM) (i : Int) : Bool := srvB i X.l.length && (decide (i ≠ X.me) && !(X.at_ i.toNat).gone)
def BoxM.dueB (X : BoxM) (i now : Int) : Bool := X.peerB i && decide ((X.at_ i.toNat).due ≤ clampT now)
def BoxM.ackB (X : BoxM) (i log size : Int) : Bool := X.peerB i && (srvB log X.l.length && (decide (log ≠ i) && decide (X.m i log < size)))
def upd (m : Int → Int → Int) (i log size : Int) : Int → Int → Int := fun a b => if a = i ∧ b = log then size else m a b
def BoxM.setPeer (X : BoxM) (j : Nat) (p : Peer) : BoxM := { X with l := X.l.set j p }
def BoxM.acked (X : BoxM) (i log size now : Int) : BoxM :=
  { me := X.me, budget := X.budget, m := upd X.m i log size, l := X.l.set i.toNat { due := clampT now, waiting := 0, gone := (X.at_ i.toNat).gone } }
def BoxM.ack (X : BoxM) (i log size now : Int) : BoxM := if X.ackB i log size then X.acked i log size now else X
def BoxM.give (X : BoxM) (i : Int) : BoxM :=
  if X.peerB i then { X with l := X.l.set i.toNat { due := (X.at_ i.toNat).due, waiting := (X.at_ i.toNat).waiting, gone := true } } else X
def pauseI (k : Int) : Int := if k ≤ 1 then 1 else if k = 2 then 2 else if k = 3 then 4 else if k = 4 then 8 else 16

/-- how much of a log fits -/
def cnt (start left : Int) (es : List Int) : Int :=
  es.foldl (fun c e => if start < e ∧ e - start ≤ min 64 left then max c (e - start) else c) 0
/-- one round of planFor: what is left, and what is planned so far -/
def BoxM.planStep (X : BoxM) (peer : Nat) (now : Int) (ends : List (List Int)) (i : Nat) (st : Int × List Send) : Int × List Send :=
  let log : Nat := ((now % (X.l.length : Int) + i) % (X.l.length : Int)).toNat
  if log = peer ∨ ends.length ≤ log then st else
  let c := cnt (X.m peer log) st.1 (ends.getD log [])
  if 0 < c then (st.1 - c, st.2 ++ [⟨peer, log, X.m peer log, c⟩]) else st
/-- planFor from round i on (k rounds are left); it stops where MaxSends is reached -/
def BoxM.planGo (X : BoxM) (peer : Nat) (now : Int) (ends : List (List Int)) : (k : Nat) → (i : Nat) → Int × List Send → List Send
  | 0, _, st => st.2
  | k + 1, i, st =>
    let log : Nat := ((now % (X.l.length : Int) + i) % (X.l.length : Int)).toNat
    if log = peer ∨ ends.length ≤ log then X.planGo peer now ends k (i + 1) st
    else if 8 ≤ st.2.length then st.2
    else X.planGo peer now ends k (i + 1) (X.planStep peer now ends i st)
def BoxM.planFor (X : BoxM) (peer : Nat) (now : Int) (ends : List (List Int)) : List Send := X.planGo peer now ends X.l.length 0 (X.budget, [])
def BoxM.bump (X : BoxM) (j : Nat) (now : Int) : BoxM :=
  { X with l := X.l.set j { due := now + pauseI ((X.at_ j).waiting + 1), waiting := (X.at_ j).waiting + 1, gone := (X.at_ j).gone } }
/-- Plan from peer j on (k peers are left) -/
def BoxM.planAll (now : Int) (ends : List (List Int)) : (k : Nat) → (j : Nat) → BoxM × List Send → BoxM × List Send
  | 0, _, st => st
  | k + 1, j, st =>
    if st.1.dueB j now = false then BoxM.planAll now ends k (j + 1) st
    else
      let s := st.1.planFor j now ends
      if s = [] then BoxM.planAll now ends k (j + 1) st
      else BoxM.planAll now ends k (j + 1) (st.1.bump j now, st.2 ++ s)
def BoxM.plan (X : BoxM) (now : Int) (ends : List (List Int)) : BoxM × List Send := BoxM.planAll (clampT now) ends X.l.length 0 (X, [])
end Go.Proofs.Ytipklnakihinkaa

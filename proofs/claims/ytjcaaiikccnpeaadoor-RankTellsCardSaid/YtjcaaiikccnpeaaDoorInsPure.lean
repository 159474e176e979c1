/- Insertion by exchanges of neighbours, as the library does it; plain. -/
import Derived.Test.YtjcaaiikccnpeaaDoorRankPure
namespace Go.Proofs.YtjcaaiikccnpeaaDoor
open Go Go.Lib
set_option linter.unusedVariables false

def noC : Card := ⟨[], [], 0, 0, 0, []⟩
def swapL (l : List Card) (j : Nat) : List Card := (l.set j (l.getD (j - 1) noC)).set (j - 1) (l.getD j noC)
theorem swapL_length (l : List Card) (j : Nat) : (swapL l j).length = l.length := by simp [swapL]
/-- the card at j goes left, not beyond a -/
def bub (a : Nat) : Nat → List Card → List Card
  | 0, l => l
  | j + 1, l => if a < j + 1 ∧ lessC (l.getD (j + 1) noC) (l.getD j noC) = true then bub a j (swapL l (j + 1)) else l
theorem bub_length (a : Nat) : ∀ (j : Nat) (l : List Card), (bub a j l).length = l.length
  | 0, l => rfl
  | j + 1, l => by
    unfold bub
    split
    · rw [bub_length a j, swapL_length]
    · rfl
theorem bub_go {a j : Nat} {l : List Card} (h : a < j) (hl : lessC (l.getD j noC) (l.getD (j - 1) noC) = true) : bub a j l = bub a (j - 1) (swapL l j) := by
  obtain ⟨j, rfl⟩ : ∃ k, j = k + 1 := ⟨j - 1, by omega⟩
  rw [bub, if_pos ⟨h, by simpa using hl⟩]
  rfl
theorem bub_stop {a j : Nat} {l : List Card} (h : ¬ (a < j ∧ lessC (l.getD j noC) (l.getD (j - 1) noC) = true)) : bub a j l = l := by
  cases j with
  | zero => rfl
  | succ j => rw [bub, if_neg (by simpa using h)]
/-- the first k cards behind a are in -/
def insN (a : Nat) : Nat → List Card → List Card
  | 0, l => l
  | k + 1, l => bub a (a + 1 + k) (insN a k l)
theorem insN_length (a : Nat) : ∀ (k : Nat) (l : List Card), (insN a k l).length = l.length
  | 0, l => rfl
  | k + 1, l => by rw [insN, bub_length, insN_length a k l]
end Go.Proofs.YtjcaaiikccnpeaaDoor

/- Exchanges of ranges, and rotations; plain. -/
import Derived.Test.YtjcaaiikccnpeaaDoorInsPure
namespace Go.Proofs.YtjcaaiikccnpeaaDoor
open Go Go.Lib
set_option linter.unusedVariables false

/-- two cards change places -/
def swp (i j : Nat) (l : List Card) : List Card := (l.set i (l.getD j noC)).set j (l.getD i noC)
theorem swp_length (i j : Nat) (l : List Card) : (swp i j l).length = l.length := by simp [swp]
/-- the first k cards from a on and from b on change places -/
def swapR (a b : Nat) : Nat → List Card → List Card
  | 0, l => l
  | k + 1, l => swp (a + k) (b + k) (swapR a b k l)
theorem swapR_length (a b : Nat) : ∀ (k : Nat) (l : List Card), (swapR a b k l).length = l.length
  | 0, l => rfl
  | k + 1, l => by rw [swapR, swp_length, swapR_length a b k l]
theorem getD_eq (l : List Card) (i : Nat) : l.getD i noC = (l[i]?).getD noC := List.getD_eq_getElem?_getD
theorem swp_get {i j : Nat} {l : List Card} (hi : i < l.length) (hj : j < l.length) (hij : i ≠ j) (t : Nat) : (swp i j l)[t]? = if t = i then l[j]? else if t = j then l[i]? else l[t]? := by
  unfold swp
  rw [List.getElem?_set, List.getElem?_set, List.length_set, getD_eq, getD_eq]
  by_cases h1 : j = t
  · subst h1
    rw [if_pos rfl, if_pos hj, if_neg (by omega), if_pos rfl, List.getElem?_eq_getElem hi]
    rfl
  · rw [if_neg h1]
    by_cases h2 : i = t
    · subst h2
      rw [if_pos rfl, if_pos hi, if_pos rfl, List.getElem?_eq_getElem hj]
      rfl
    · rw [if_neg h2, if_neg (by omega), if_neg (by omega)]
theorem swapR_get {a b : Nat} : ∀ (k : Nat) {l : List Card}, a + k ≤ b → b + k ≤ l.length → ∀ t : Nat, (swapR a b k l)[t]? = if a ≤ t ∧ t < a + k then l[b + (t - a)]? else if b ≤ t ∧ t < b + k then l[a + (t - b)]? else l[t]?
  | 0, l, _, _, t => by
    rw [swapR, if_neg (by omega), if_neg (by omega)]
  | k + 1, l, h1, h2, t => by
    have ih := swapR_get k (l := l) (by omega : a + k ≤ b) (by omega)
    have hl := swapR_length a b k l
    rw [swapR, swp_get (by omega) (by omega) (by omega), ih, ih, ih]
    by_cases e1 : t = a + k
    · subst e1
      rw [if_pos rfl, if_neg (by omega), if_neg (by omega), if_pos (by omega)]
      congr 1; omega
    · rw [if_neg e1]
      by_cases e2 : t = b + k
      · subst e2
        rw [if_pos rfl, if_neg (by omega), if_neg (by omega), if_neg (by omega), if_pos (by omega)]
        congr 1; omega
      · rw [if_neg e2]
        by_cases e3 : a ≤ t ∧ t < a + k
        · rw [if_pos e3, if_pos (by omega)]
        · rw [if_neg e3, if_neg (c := a ≤ t ∧ t < a + (k + 1)) (by omega)]
          by_cases e4 : b ≤ t ∧ t < b + k
          · rw [if_pos e4, if_pos (by omega)]
          · rw [if_neg e4, if_neg (by omega)]
/-- as lists -/
theorem swapR_app (P A M B S : List Card) (h : A.length = B.length) : swapR P.length (P.length + A.length + M.length) A.length (P ++ (A ++ (M ++ (B ++ S)))) = P ++ (B ++ (M ++ (A ++ S))) := by
  apply List.ext_getElem?
  intro t
  rw [swapR_get A.length (by omega) (by simp only [List.length_append]; omega)]
  simp only [List.getElem?_append]
  repeat' split
  all_goals first
    | (exfalso; omega)
    | rfl
    | (congr 1; omega)
end Go.Proofs.YtjcaaiikccnpeaaDoor

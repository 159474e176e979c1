/- Cards, their order, and sorting by insertion; plain. -/
import Derived.Test.YtjcaaiikccnpeaaDoorPure
import GoSem.Op.String
namespace Go.Proofs.YtjcaaiikccnpeaaDoor
open Go Go.Lib
set_option linter.unusedVariables false

def ltB (a b : List UInt8) : Bool := Op.bytesLess a b
theorem ltB_nil (a : List UInt8) : ltB a [] = false := by cases a <;> rfl
theorem ltB_cons (x y : UInt8) (a b : List UInt8) : ltB (x :: a) (y :: b) = (decide (x < y) || (x == y && ltB a b)) := rfl
theorem ltB_irrefl : ∀ a : List UInt8, ltB a a = false
  | [] => rfl
  | x :: a => by
    rw [ltB_cons, ltB_irrefl a]
    simp
theorem ltB_trans : ∀ {a b c : List UInt8}, ltB a b = true → ltB b c = true → ltB a c = true
  | a, b, [], h1, h2 => by rw [ltB_nil] at h2; cases h2
  | a, [], c, h1, h2 => by rw [ltB_nil] at h1; cases h1
  | [], y :: b, z :: c, h1, h2 => rfl
  | x :: a, y :: b, z :: c, h1, h2 => by
    rw [ltB_cons] at *
    simp only [Bool.or_eq_true, Bool.and_eq_true, decide_eq_true_eq, beq_iff_eq, UInt8.lt_iff_toNat_lt, ← UInt8.toNat_inj] at *
    rcases h1 with h1 | ⟨h1, h3⟩ <;> rcases h2 with h2 | ⟨h2, h4⟩
    · left; omega
    · left; omega
    · left; omega
    · exact .inr ⟨by omega, ltB_trans h3 h4⟩
theorem ltB_tri : ∀ a b : List UInt8, ltB a b = true ∨ a = b ∨ ltB b a = true
  | [], [] => .inr (.inl rfl)
  | [], y :: b => .inl rfl
  | x :: a, [] => .inr (.inr rfl)
  | x :: a, y :: b => by
    rw [ltB_cons, ltB_cons]
    simp only [Bool.or_eq_true, Bool.and_eq_true, decide_eq_true_eq, beq_iff_eq, UInt8.lt_iff_toNat_lt, ← UInt8.toNat_inj, List.cons.injEq]
    rcases Nat.lt_trichotomy x.toNat y.toNat with h | h | h
    · exact .inl (.inl h)
    · rcases ltB_tri a b with h2 | h2 | h2
      · exact .inl (.inr ⟨h, h2⟩)
      · exact .inr (.inl ⟨h, h2⟩)
      · exact .inr (.inr (.inr ⟨h.symm, h2⟩))
    · exact .inr (.inr (.inl h))
theorem ltB_asymm {a b : List UInt8} (h : ltB a b = true) : ltB b a = false := by
  cases h2 : ltB b a with
  | false => rfl
  | true => have := ltB_trans h h2; rw [ltB_irrefl] at this; cases this
structure Card where
  id : List UInt8
  by' : List UInt8
  score : Int
  time : Int
  act : Int
  rea : List UInt8
deriving DecidableEq
/-- cmp.Compare at ints, and at strings -/
def cmpI (a b : Int) : Int := if a < b then -1 else if b < a then 1 else 0
def cmpT (a b : List UInt8) : Int := if ltB a b = true then -1 else if ltB b a = true then 1 else 0
def cmpC (a b : Card) : Int := if cmpI b.score a.score ≠ 0 then cmpI b.score a.score else if cmpI b.time a.time ≠ 0 then cmpI b.time a.time else cmpT a.id b.id
def lessC (a b : Card) : Bool := decide (cmpC a b < 0)
theorem less_iff (a b : Card) : lessC a b = true ↔ b.score < a.score ∨ (a.score = b.score ∧ (b.time < a.time ∨ (a.time = b.time ∧ ltB a.id b.id = true))) := by
  unfold lessC cmpC cmpI cmpT
  rw [decide_eq_true_eq]
  by_cases h1 : b.score < a.score
  · simp [h1]
  by_cases h2 : a.score < b.score
  · rw [if_neg h1, if_pos h2, if_pos (by decide)]
    constructor
    · intro h; omega
    · rintro (h | ⟨h, _⟩) <;> omega
  rw [if_neg h1, if_neg h2, if_neg (by simp)]
  have e : a.score = b.score := by omega
  by_cases h3 : b.time < a.time
  · simp [h3, e]
  by_cases h4 : a.time < b.time
  · rw [if_neg h3, if_pos h4, if_pos (by decide)]
    constructor
    · intro h; omega
    · rintro (h | ⟨_, h | ⟨h, _⟩⟩) <;> omega
  rw [if_neg h3, if_neg h4, if_neg (by simp)]
  have e2 : a.time = b.time := by omega
  by_cases h5 : ltB a.id b.id = true
  · simp [h5, e, e2]
  · rw [if_neg h5]
    by_cases h6 : ltB b.id a.id = true
    · rw [if_pos h6]
      constructor
      · intro h; omega
      · rintro (h | ⟨_, h | ⟨_, h⟩⟩)
        · omega
        · omega
        · exact absurd h h5
    · rw [if_neg h6]
      constructor
      · intro h; omega
      · rintro (h | ⟨_, h | ⟨_, h⟩⟩)
        · omega
        · omega
        · exact absurd h h5
theorem less_irrefl (a : Card) : lessC a a = false := by
  rw [Bool.eq_false_iff]
  intro h
  rcases (less_iff a a).1 h with h | ⟨_, h | ⟨_, h⟩⟩
  · omega
  · omega
  · rw [ltB_irrefl] at h; cases h
theorem less_trans {a b c : Card} (h1 : lessC a b = true) (h2 : lessC b c = true) : lessC a c = true := by
  rw [less_iff] at *
  rcases h1 with h1 | ⟨e1, h1⟩ <;> rcases h2 with h2 | ⟨e2, h2⟩
  · left; omega
  · left; omega
  · left; omega
  · right
    refine ⟨by omega, ?_⟩
    rcases h1 with h1 | ⟨e3, h1⟩ <;> rcases h2 with h2 | ⟨e4, h2⟩
    · left; omega
    · left; omega
    · left; omega
    · exact .inr ⟨by omega, ltB_trans h1 h2⟩
theorem less_asymm {a b : Card} (h : lessC a b = true) : lessC b a = false := by
  cases h2 : lessC b a with
  | false => rfl
  | true => have := less_trans h h2; rw [less_irrefl] at this; cases this
/-- not ordered: equal in score, time and id -/
theorem less_eq (a b : Card) : (lessC a b = false ∧ lessC b a = false) ↔ a.score = b.score ∧ a.time = b.time ∧ a.id = b.id := by
  constructor
  · rintro ⟨h1, h2⟩
    have n1 : ¬ lessC a b = true := by rw [h1]; simp
    have n2 : ¬ lessC b a = true := by rw [h2]; simp
    rw [less_iff] at n1 n2
    have e1 : a.score = b.score := by
      rcases Int.lt_trichotomy a.score b.score with h | h | h
      · exact absurd (.inl h) n2
      · exact h
      · exact absurd (.inl h) n1
    have e2 : a.time = b.time := by
      rcases Int.lt_trichotomy a.time b.time with h | h | h
      · exact absurd (.inr ⟨e1.symm, .inl h⟩) n2
      · exact h
      · exact absurd (.inr ⟨e1, .inl h⟩) n1
    refine ⟨e1, e2, ?_⟩
    rcases ltB_tri a.id b.id with h | h | h
    · exact absurd (.inr ⟨e1, .inr ⟨e2, h⟩⟩) n1
    · exact h
    · exact absurd (.inr ⟨e1.symm, .inr ⟨e2.symm, h⟩⟩) n2
  · rintro ⟨e1, e2, e3⟩
    constructor <;> (rw [Bool.eq_false_iff]; intro h; rcases (less_iff _ _).1 h with h | ⟨_, h | ⟨_, h⟩⟩)
    · omega
    · omega
    · rw [e3, ltB_irrefl] at h; cases h
    · omega
    · omega
    · rw [e3, ltB_irrefl] at h; cases h
/-- one card goes left over those that it is before; the list stands reversed -/
def insR (x : Card) : List Card → List Card
  | [] => [x]
  | y :: r => if lessC x y = true then y :: insR x r else x :: y :: r
/-- sorting by insertion -/
def sortI (l : List Card) : List Card := (l.foldl (fun acc x => insR x acc) []).reverse
end Go.Proofs.YtjcaaiikccnpeaaDoor

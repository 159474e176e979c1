/- The greatest end that is reached in steps of at most 64: plain mathematics. -/
namespace Go.Proofs.Ytipklnakihinkaa
/-- r is reached from 0 over elements of l, in steps of at most 64 -/
def Reach (l : List Int) (r : Int) : Prop := ∀ P : Int → Prop, P 0 → (∀ a e, P a → e ∈ l → a < e → e - a ≤ 64 → P e) → P r
theorem Reach.zero (l : List Int) : Reach l 0 := fun _ h0 _ => h0
theorem Reach.step {l : List Int} {a e : Int} (h : Reach l a) (he : e ∈ l) (h1 : a < e) (h2 : e - a ≤ 64) : Reach l e := fun P h0 hs => hs a e (h P h0 hs) he h1 h2
theorem Reach.nonneg {l : List Int} {a : Int} (h : Reach l a) : 0 ≤ a := h (fun a => 0 ≤ a) (Int.le_refl 0) (fun a e ha _ h1 _ => by omega)
/-- nothing more is reached from r -/
def Stuck (l : List Int) (r : Int) : Prop := ∀ e, e ∈ l → r < e → 64 < e - r
def IsLast (l : List Int) (r : Int) : Prop := Reach l r ∧ Stuck l r
theorem Reach.le_stuck {l : List Int} {v r : Int} (hr : 0 ≤ r) (hs : Stuck l r) (h : Reach l v) : v ≤ r :=
  h (fun v => v ≤ r) hr (fun a e ha he h1 h2 => by
    rcases Int.lt_or_le r e with h | h
    · have := hs e he h; omega
    · exact h)
theorem IsLast.unique {l : List Int} {r r' : Int} (h : IsLast l r) (h' : IsLast l r') : r = r' := by
  have h1 := Reach.le_stuck h.1.nonneg h.2 h'.1
  have h2 := Reach.le_stuck h'.1.nonneg h'.2 h.1
  omega
/-- how many elements are above a -/
def above : List Int → Int → Nat
  | [], _ => 0
  | x :: r, a => above r a + if a < x then 1 else 0
theorem above_mono {a b : Int} (h : a ≤ b) : ∀ l : List Int, above l b ≤ above l a
  | [] => Nat.le_refl 0
  | x :: r => by
    have := above_mono h r
    simp only [above]
    split <;> split <;> omega
theorem above_lt {a e : Int} (h : a < e) : ∀ l : List Int, e ∈ l → above l e < above l a
  | [], he => by simp at he
  | x :: r, he => by
    simp only [above]
    rcases List.mem_cons.1 he with rfl | hm
    · have := above_mono (Int.le_of_lt h) r
      simp only [Int.lt_irrefl, if_false, h, if_true]
      omega
    · have := above_lt h r hm
      split <;> split <;> omega
theorem above_le (a : Int) : ∀ l : List Int, above l a ≤ l.length
  | [] => Nat.le_refl 0
  | x :: r => by
    have := above_le a r
    simp only [above, List.length_cons]
    split <;> omega
theorem last_exists (l : List Int) : ∃ r, IsLast l r := by
  have key : ∀ (n : Nat) (a : Int), above l a ≤ n → Reach l a → ∃ r, IsLast l r := by
    intro n
    induction n with
    | zero =>
      intro a h hr
      refine ⟨a, hr, fun e he hlt => ?_⟩
      have := above_lt hlt l he
      omega
    | succ n ih =>
      intro a h hr
      by_cases hs : Stuck l a
      · exact ⟨a, hr, hs⟩
      · unfold Stuck at hs
        simp only [Classical.not_forall] at hs
        obtain ⟨e, he, hlt, hn⟩ := hs
        exact ih e (by have := above_lt hlt l he; omega) (hr.step he hlt (by omega))
  exact key _ 0 (Nat.le_refl _) (Reach.zero l)
noncomputable def lastI (l : List Int) : Int := (last_exists l).choose
theorem lastI_is (l : List Int) : IsLast l (lastI l) := (last_exists l).choose_spec
theorem lastI_eq {l : List Int} {r : Int} (h : IsLast l r) : lastI l = r := (lastI_is l).unique h
/-- below the last one there is always a next one -/
theorem next_of_lt {l : List Int} {a : Int} (h : a < lastI l) (ha : 0 ≤ a) : ∃ e, e ∈ l ∧ a < e ∧ e - a ≤ 64 := by
  by_cases hs : Stuck l a
  · have := Reach.le_stuck ha hs (lastI_is l).1
    omega
  · unfold Stuck at hs
    simp only [Classical.not_forall] at hs
    obtain ⟨e, he, hlt, hn⟩ := hs
    exact ⟨e, he, hlt, by omega⟩
theorem reach_le_last {l : List Int} {a : Int} (h : Reach l a) : a ≤ lastI l := Reach.le_stuck (lastI_is l).1.nonneg (lastI_is l).2 h
def fewB (ends : List (List Int)) : Bool := decide (ends.length ≤ 25) && ends.all (fun l => decide (l.length ≤ 40))
end Go.Proofs.Ytipklnakihinkaa

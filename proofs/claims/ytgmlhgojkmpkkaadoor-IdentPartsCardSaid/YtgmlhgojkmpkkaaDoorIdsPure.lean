/- Ids in order; plain. -/
import Derived.Test.YtgmlhgojkmpkkaaDoorIdentPure
import GoSem.Op.String
namespace Go.Proofs.YtgmlhgojkmpkkaaDoor
open Go Go.Lib
set_option linter.unusedVariables false

def ltB (a b : List UInt8) : Bool := Op.bytesLess a b
theorem ltB_nil (a : List UInt8) : ltB a [] = false := by cases a <;> rfl
theorem ltB_cons (x y : UInt8) (a b : List UInt8) : ltB (x :: a) (y :: b) = (decide (x < y) || (x == y && ltB a b)) := rfl
theorem ltB_irrefl : ∀ a : List UInt8, ltB a a = false
  | [] => rfl
  | x :: a => by
    rw [ltB_cons, ltB_irrefl a]
    simp
theorem ltB_trans : ∀ {a b c : List UInt8}, ltB a b = true → ltB b c = true → ltB a c = true
  | a, b, [], h1, h2 => by rw [ltB_nil] at h2; cases h2
  | a, [], c, h1, h2 => by rw [ltB_nil] at h1; cases h1
  | [], y :: b, z :: c, h1, h2 => rfl
  | x :: a, y :: b, z :: c, h1, h2 => by
    rw [ltB_cons] at *
    simp only [Bool.or_eq_true, Bool.and_eq_true, decide_eq_true_eq, beq_iff_eq, UInt8.lt_iff_toNat_lt, ← UInt8.toNat_inj] at *
    rcases h1 with h1 | ⟨h1, h3⟩ <;> rcases h2 with h2 | ⟨h2, h4⟩
    · left; omega
    · left; omega
    · left; omega
    · exact .inr ⟨by omega, ltB_trans h3 h4⟩
theorem ltB_tri : ∀ a b : List UInt8, ltB a b = true ∨ a = b ∨ ltB b a = true
  | [], [] => .inr (.inl rfl)
  | [], y :: b => .inl rfl
  | x :: a, [] => .inr (.inr rfl)
  | x :: a, y :: b => by
    rw [ltB_cons, ltB_cons]
    simp only [Bool.or_eq_true, Bool.and_eq_true, decide_eq_true_eq, beq_iff_eq, UInt8.lt_iff_toNat_lt, ← UInt8.toNat_inj, List.cons.injEq]
    rcases Nat.lt_trichotomy x.toNat y.toNat with h | h | h
    · exact .inl (.inl h)
    · rcases ltB_tri a b with h2 | h2 | h2
      · exact .inl (.inr ⟨h, h2⟩)
      · exact .inr (.inl ⟨h, h2⟩)
      · exact .inr (.inr (.inr ⟨h.symm, h2⟩))
    · exact .inr (.inr (.inl h))
/-- '<=' is no '>' -/
theorem leB_not (a b : List UInt8) : (ltB a b || a == b) = !ltB b a := by
  rcases ltB_tri a b with h | h | h
  · have : ltB b a = false := by
      cases h2 : ltB b a with
      | false => rfl
      | true => have := ltB_trans h h2; rw [ltB_irrefl] at this; cases this
    rw [h, this]; rfl
  · subst h
    rw [ltB_irrefl]; simp
  · have h1 : ltB a b = false := by
      cases h2 : ltB a b with
      | false => rfl
      | true => have := ltB_trans h h2; rw [ltB_irrefl] at this; cases this
    have h3 : (a == b) = false := by
      cases h2 : a == b with
      | false => rfl
      | true => rw [eq_of_beq h2, ltB_irrefl] at h; cases h
    rw [h, h1, h3]; rfl
/-- each is an id, and they ascend -/
def chainB : List (List UInt8) → Bool
  | [] => true
  | x :: r => rightB x && (r.all fun y => ltB x y) && chainB r
def idsB (l : List (List UInt8)) : Bool := decide (l.length ≤ 64) && chainB l
theorem chainB_iff : ∀ l : List (List UInt8), chainB l = true ↔ (∀ x ∈ l, rightB x = true) ∧ l.Pairwise (fun a b => ltB a b = true)
  | [] => by simp [chainB]
  | x :: r => by
    simp only [chainB, Bool.and_eq_true, List.all_eq_true, chainB_iff r, List.mem_cons, List.pairwise_cons, forall_eq_or_imp]
    constructor
    · rintro ⟨⟨a, b⟩, c, d⟩; exact ⟨⟨a, c⟩, b, d⟩
    · rintro ⟨⟨a, c⟩, b, d⟩; exact ⟨⟨a, b⟩, c, d⟩
theorem idsB_iff (l : List (List UInt8)) : idsB l = true ↔ l.length ≤ 64 ∧ (∀ x ∈ l, rightB x = true) ∧ l.Pairwise (fun a b => ltB a b = true) := by
  unfold idsB
  rw [Bool.and_eq_true, decide_eq_true_eq, chainB_iff]
/-- one more in order -/
theorem chain_step {l : List (List UInt8)} {k : Nat} (hk : k < l.length) (h : chainB (l.take k) = true) (hr : rightB (l[k]'hk) = true) (hlt : ∀ h0 : 0 < k, ltB (l[k - 1]'(by omega)) (l[k]'hk) = true) : chainB (l.take (k + 1)) = true := by
  rw [List.take_succ_eq_append_getElem hk]
  rw [chainB_iff] at h ⊢
  obtain ⟨h1, h2⟩ := h
  refine ⟨fun x hx => ?_, ?_⟩
  · rcases List.mem_append.1 hx with hx | hx
    · exact h1 x hx
    · rw [List.mem_singleton.1 hx]; exact hr
  · rw [List.pairwise_append]
    refine ⟨h2, by simp, fun a ha b hb => ?_⟩
    rw [List.mem_singleton.1 hb]
    obtain ⟨i, hi, rfl⟩ := List.getElem_of_mem ha
    rw [List.length_take] at hi
    have h0 : 0 < k := by omega
    rw [List.getElem_take]
    by_cases e : i = k - 1
    · subst e; exact hlt h0
    · have hp := (List.pairwise_iff_getElem.1 h2) i (k - 1) (by rw [List.length_take]; omega) (by rw [List.length_take]; omega) (by omega)
      rw [List.getElem_take, List.getElem_take] at hp
      exact ltB_trans hp (hlt h0)
theorem chain_bad_right {l : List (List UInt8)} {k : Nat} (hk : k < l.length) (hr : rightB (l[k]'hk) = false) : chainB l = false := by
  rw [Bool.eq_false_iff]
  intro h
  have := (chainB_iff l).1 h |>.1 (l[k]'hk) (List.getElem_mem hk)
  rw [hr] at this
  cases this
theorem chain_bad_lt {l : List (List UInt8)} {k : Nat} (hk : k < l.length) (h0 : 0 < k) (hr : ltB (l[k - 1]'(by omega)) (l[k]'hk) = false) : chainB l = false := by
  rw [Bool.eq_false_iff]
  intro h
  have := (List.pairwise_iff_getElem.1 ((chainB_iff l).1 h).2) (k - 1) k (by omega) hk (by omega)
  rw [hr] at this
  cases this
theorem ids_take_all {l : List (List UInt8)} (h : chainB (l.take l.length) = true) : chainB l = true := by rwa [List.take_length] at h
/-- without one -/
theorem ids_less {l : List (List UInt8)} (h : idsB l = true) (i : Nat) : idsB (l.take i ++ l.drop (i + 1)) = true := by
  rw [idsB_iff] at h ⊢
  obtain ⟨h1, h2, h3⟩ := h
  have hs : (l.take i ++ l.drop (i + 1)).Sublist l := by
    conv => rhs; rw [← List.take_append_drop i l]
    exact List.Sublist.append (List.Sublist.refl _) (by rw [← List.drop_drop]; exact List.drop_sublist _ _)
  exact ⟨Nat.le_trans hs.length_le h1, fun x hx => h2 x (hs.subset hx), h3.sublist hs⟩
/-- one twice -/
theorem ids_more {l : List (List UInt8)} {i : Nat} (hi : i < l.length) : idsB ((l.take i ++ [l[i]'hi]) ++ l.drop i) = false := by
  rw [Bool.eq_false_iff]
  intro h
  obtain ⟨_, _, h3⟩ := (idsB_iff _).1 h
  rw [List.pairwise_append] at h3
  have m1 : l[i]'hi ∈ l.take i ++ [l[i]'hi] := List.mem_append.2 (.inr (List.mem_singleton.2 rfl))
  have m2 : l[i]'hi ∈ l.drop i := by rw [List.drop_eq_getElem_cons hi]; exact List.mem_cons_self
  have := h3.2.2 _ m1 _ m2
  rw [ltB_irrefl] at this
  cases this
/-- two exchanged -/
theorem ids_swap {l : List (List UInt8)} (h : idsB l = true) {i k : Nat} (hi : i < l.length) (hk : k < l.length) : idsB ((l.set i (l[k]'hk)).set k (l[i]'hi)) = decide (i = k) := by
  by_cases e : i = k
  · subst e
    rw [decide_eq_true rfl]
    simpa using h
  · rw [decide_eq_false e, Bool.eq_false_iff]
    intro h'
    obtain ⟨_, _, h3⟩ := (idsB_iff _).1 h
    obtain ⟨_, _, h4⟩ := (idsB_iff _).1 h'
    have hp := List.pairwise_iff_getElem.1 h3
    have hq := List.pairwise_iff_getElem.1 h4
    have gi : ((l.set i (l[k]'hk)).set k (l[i]'hi))[i]'(by simpa using hi) = l[k]'hk := by
      rw [List.getElem_set, if_neg (fun e2 => e e2.symm), List.getElem_set, if_pos rfl]
    have gk : ((l.set i (l[k]'hk)).set k (l[i]'hi))[k]'(by simpa using hk) = l[i]'hi := by
      rw [List.getElem_set, if_pos rfl]
    have bad : ∀ a b : List UInt8, ltB a b = true → ltB b a = true → False := fun a b x y => by
      have := ltB_trans x y; rw [ltB_irrefl] at this; cases this
    rcases Nat.lt_or_gt_of_ne e with h5 | h5
    · have x := hp i k hi hk h5
      have y := hq i k (by simpa using hi) (by simpa using hk) h5
      rw [gi, gk] at y
      exact bad _ _ x y
    · have x := hp k i hk hi h5
      have y := hq k i (by simpa using hk) (by simpa using hi) h5
      rw [gi, gk] at y
      exact bad _ _ x y
end Go.Proofs.YtgmlhgojkmpkkaaDoor

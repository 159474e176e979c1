/- What 'within' asks of a plan: plain mathematics. -/
import Derived.Test.YtipklnakihinkaaPlanModel
namespace Go.Proofs.Ytipklnakihinkaa
def manyOf (l : List Send) (p : Int) : Int := ((l.filter (fun s => decide (s.peer = p))).length : Int)
def entOf (l : List Send) (p : Int) : Int := total (l.filter (fun s => decide (s.peer = p)))
structure WithinOk (me bud : Int) (ends : List (List Int)) (X : BoxM) (l : List Send) : Prop where
  sorted : ∀ (i j : Nat) (a b : Send), i < j → l[i]? = some a → l[j]? = some b → a.peer ≤ b.peer
  each : ∀ s, s ∈ l → s.peer ≠ me ∧ s.log ≠ s.peer ∧ 0 ≤ s.peer ∧ s.peer < 20 ∧ ∃ L : Nat, s.log = L ∧ L < ends.length ∧ L < 20 ∧ s.start = X.m s.peer L ∧ 1 ≤ s.count ∧ s.count ≤ 64 ∧ s.start + s.count ∈ ends.getD L [] ∧ 0 ≤ s.start
  many : ∀ p, manyOf l p ≤ 8
  ent : ∀ p, entOf l p ≤ bud ∨ entOf l p ≤ 64
theorem manyOf_snoc (l : List Send) (s : Send) (p : Int) : manyOf (l ++ [s]) p = manyOf l p + if s.peer = p then 1 else 0 := by
  unfold manyOf
  rw [List.filter_append]
  by_cases h : s.peer = p <;> simp [h]
theorem entOf_snoc (l : List Send) (s : Send) (p : Int) : entOf (l ++ [s]) p = entOf l p + if s.peer = p then s.count else 0 := by
  unfold entOf
  rw [List.filter_append]
  by_cases h : s.peer = p
  · simp [h, total_snoc]
  · simp [h]
theorem manyOf_append (a b : List Send) (p : Int) : manyOf (a ++ b) p = manyOf a p + manyOf b p := by
  unfold manyOf; rw [List.filter_append]; simp
theorem total_append (a b : List Send) : total (a ++ b) = total a + total b := by simp [total]
theorem entOf_append (a b : List Send) (p : Int) : entOf (a ++ b) p = entOf a p + entOf b p := by
  unfold entOf; rw [List.filter_append, total_append]
theorem manyOf_nonneg (l : List Send) (p : Int) : 0 ≤ manyOf l p := by unfold manyOf; omega
theorem total_nonneg {l : List Send} (h : ∀ s, s ∈ l → 0 ≤ s.count) : 0 ≤ total l := by
  induction l with
  | nil => simp [total]
  | cons s r ih =>
    have := h s (by simp)
    have := ih (fun x hx => h x (by simp [hx]))
    simp only [total, List.map_cons, List.sum_cons] at *
    omega
theorem entOf_nonneg {l : List Send} (h : ∀ s, s ∈ l → 0 ≤ s.count) (p : Int) : 0 ≤ entOf l p :=
  total_nonneg fun s hs => h s (List.mem_filter.1 hs).1
section
variable {me bud : Int} {ends : List (List Int)} {X : BoxM} {l : List Send}
theorem WithinOk.count (h : WithinOk me bud ends X l) : ∀ s, s ∈ l → 0 ≤ s.count := fun s hs => by
  obtain ⟨_, _, _, _, _, _, _, _, _, h1, _⟩ := h.each s hs
  omega
theorem WithinOk.take (h : WithinOk me bud ends X l) (i : Nat) (p : Int) : 0 ≤ manyOf (l.take i) p ∧ manyOf (l.take i) p ≤ 8 ∧ 0 ≤ entOf (l.take i) p ∧ (entOf (l.take i) p ≤ bud ∨ entOf (l.take i) p ≤ 64) := by
  have e := List.take_append_drop i l
  have h1 := manyOf_append (l.take i) (l.drop i) p
  have h2 := entOf_append (l.take i) (l.drop i) p
  rw [e] at h1 h2
  have h3 := manyOf_nonneg (l.drop i) p
  have h4 := entOf_nonneg (l := l.drop i) (fun s hs => h.count s (List.mem_of_mem_drop hs)) p
  have h5 := entOf_nonneg (l := l.take i) (fun s hs => h.count s (List.mem_of_mem_take hs)) p
  have h6 := h.many p
  have h7 := h.ent p
  have h8 := manyOf_nonneg (l.take i) p
  exact ⟨h8, by omega, h5, by omega⟩
theorem within_step {i : Nat} (hi : i < l.length) : manyOf (l.take (i + 1)) l[i].peer = manyOf (l.take i) l[i].peer + 1 ∧ entOf (l.take (i + 1)) l[i].peer = entOf (l.take i) l[i].peer + l[i].count := by
  rw [List.take_succ_eq_append_getElem hi, manyOf_snoc, entOf_snoc]
  simp
theorem filter_none {l : List Send} {p : Int} (h : ∀ s, s ∈ l → s.peer ≠ p) : l.filter (fun s => decide (s.peer = p)) = [] := by
  rw [List.filter_eq_nil_iff]
  intro s hs
  simpa using h s hs
theorem WithinOk.fresh (h : WithinOk me bud ends X l) {i : Nat} (hi : i + 1 < l.length) (hne : l[i].peer ≠ l[i + 1].peer) : manyOf (l.take (i + 1)) l[i + 1].peer = 0 ∧ entOf (l.take (i + 1)) l[i + 1].peer = 0 := by
  have hall : ∀ s, s ∈ l.take (i + 1) → s.peer ≠ l[i + 1].peer := by
    intro s hs
    obtain ⟨j, hj⟩ := List.getElem?_of_mem hs
    have hjl : j < i + 1 := by
      rcases Nat.lt_or_ge j (i + 1) with h | h
      · exact h
      · rw [List.getElem?_eq_none (by simp; omega)] at hj; simp at hj
    rw [List.getElem?_take_of_lt hjl] at hj
    have h2 : l[i]? = some l[i] := List.getElem?_eq_getElem (by omega)
    have h3 : l[i + 1]? = some l[i + 1] := List.getElem?_eq_getElem hi
    have h4 := h.sorted i (i + 1) _ _ (by omega) h2 h3
    have h5 : s.peer ≤ l[i].peer := by
      by_cases e : j = i
      · subst e; rw [h2] at hj; injection hj with hj; rw [hj]; exact Int.le_refl _
      · exact h.sorted j i _ _ (by omega) hj h2
    omega
  unfold manyOf entOf
  rw [filter_none hall]
  simp [total]
end
end Go.Proofs.Ytipklnakihinkaa

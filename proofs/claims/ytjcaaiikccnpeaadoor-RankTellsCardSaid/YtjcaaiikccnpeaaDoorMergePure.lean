/- Stable merging of sorted cards; sorted and stable lists are unique; plain. -/
import Derived.Test.YtjcaaiikccnpeaaDoorSwapPure
namespace Go.Proofs.YtjcaaiikccnpeaaDoor
open Go Go.Lib
set_option linter.unusedVariables false

def mergeS : List Card → List Card → List Card
  | [], ys => ys
  | x :: xs, [] => x :: xs
  | x :: xs, y :: ys => if lessC y x = true then y :: mergeS (x :: xs) ys else x :: mergeS xs (y :: ys)
termination_by xs ys => xs.length + ys.length
theorem merge_nil (ys : List Card) : mergeS [] ys = ys := by rw [mergeS]
theorem merge_nil' (xs : List Card) : mergeS xs [] = xs := by cases xs <;> rw [mergeS]
theorem merge_lt {x y : Card} (xs ys : List Card) (h : lessC y x = true) : mergeS (x :: xs) (y :: ys) = y :: mergeS (x :: xs) ys := by rw [mergeS, if_pos h]
theorem merge_ge {x y : Card} (xs ys : List Card) (h : lessC y x = false) : mergeS (x :: xs) (y :: ys) = x :: mergeS xs (y :: ys) := by rw [mergeS, if_neg (by rw [h]; simp)]
theorem merge_split (A2 B2 : List Card) : ∀ (n : Nat) (A1 B1 : List Card), A1.length + B1.length ≤ n → (∀ b ∈ B1, ∀ a ∈ A2, lessC b a = true) → (∀ a ∈ A1, ∀ b ∈ B2, lessC b a = false) →
    mergeS (A1 ++ A2) (B1 ++ B2) = mergeS A1 B1 ++ mergeS A2 B2 := by
  intro n
  induction n with
  | zero =>
    intro A1 B1 hl _ _
    have h1 : A1 = [] := List.eq_nil_of_length_eq_zero (by omega)
    have h2 : B1 = [] := List.eq_nil_of_length_eq_zero (by omega)
    subst h1 h2
    rw [merge_nil]; rfl
  | succ n ih =>
    intro A1 B1 hl h1 h2
    cases A1 with
    | nil =>
      cases B1 with
      | nil => rw [merge_nil]; rfl
      | cons b B1 =>
        have i := ih [] B1 (by simp at hl ⊢; omega) (fun b hb => h1 b (by simp [hb])) h2
        rw [merge_nil] at i ⊢
        rw [List.nil_append] at i ⊢
        cases A2 with
        | nil => rw [merge_nil, merge_nil]
        | cons a A2 => rw [List.cons_append, merge_lt _ _ (h1 b (by simp) a (by simp)), i]; rfl
    | cons a A1 =>
      cases B1 with
      | nil =>
        have i := ih A1 [] (by simp at hl ⊢; omega) h1 (fun x hx => h2 x (by simp [hx]))
        rw [merge_nil'] at i ⊢
        rw [List.nil_append] at i ⊢
        cases B2 with
        | nil => rw [merge_nil', merge_nil']
        | cons b B2 => rw [List.cons_append, merge_ge _ _ (h2 a (by simp) b (by simp)), i]; rfl
      | cons b B1 =>
        cases hab : lessC b a with
        | true =>
          have i := ih (a :: A1) B1 (by simp at hl ⊢; omega) (fun b hb => h1 b (by simp [hb])) h2
          rw [List.cons_append, List.cons_append, merge_lt _ _ hab, merge_lt _ _ hab, ← List.cons_append, i]; rfl
        | false =>
          have i := ih A1 (b :: B1) (by simp at hl ⊢; omega) h1 (fun x hx => h2 x (by simp [hx]))
          rw [List.cons_append, List.cons_append, merge_ge _ _ hab, merge_ge _ _ hab, ← List.cons_append, i]; rfl
theorem merge_cut {A1 A2 B1 B2 : List Card} (h1 : ∀ b ∈ B1, ∀ a ∈ A2, lessC b a = true) (h2 : ∀ a ∈ A1, ∀ b ∈ B2, lessC b a = false) : mergeS (A1 ++ A2) (B1 ++ B2) = mergeS A1 B1 ++ mergeS A2 B2 :=
  merge_split A2 B2 _ A1 B1 (Nat.le_refl _) h1 h2
theorem merge_length : ∀ (n : Nat) (A B : List Card), A.length + B.length ≤ n → (mergeS A B).length = A.length + B.length := by
  intro n
  induction n with
  | zero =>
    intro A B hl
    have h1 : A = [] := List.eq_nil_of_length_eq_zero (by omega)
    subst h1
    rw [merge_nil]; simp
  | succ n ih =>
    intro A B hl
    cases A with
    | nil => rw [merge_nil]; simp
    | cons a A =>
      cases B with
      | nil => rw [merge_nil']; simp
      | cons b B =>
        cases hab : lessC b a with
        | true => rw [merge_lt _ _ hab, List.length_cons, ih (a :: A) B (by simp at hl ⊢; omega)]; simp; omega
        | false => rw [merge_ge _ _ hab, List.length_cons, ih A (b :: B) (by simp at hl ⊢; omega)]; simp; omega
theorem merge_len (A B : List Card) : (mergeS A B).length = A.length + B.length := merge_length _ A B (Nat.le_refl _)
/-! ### The order is total -/
theorem le_lt {x y z : Card} (h1 : lessC y x = false) (h2 : lessC y z = true) : lessC x z = true := by
  cases h : lessC x z with
  | true => rfl
  | false =>
    exfalso
    have n1 : ¬ lessC y x = true := by rw [h1]; simp
    have n2 : ¬ lessC x z = true := by rw [h]; simp
    rw [less_iff] at n1 n2 h2
    rcases h2 with h2 | ⟨e, h2⟩
    · by_cases c : z.score < x.score
      · exact n2 (.inl c)
      · exact n1 (.inl (by omega))
    · have e1 : x.score = z.score := by
        rcases Int.lt_trichotomy x.score z.score with c | c | c
        · exact (n1 (.inl (by omega))).elim
        · exact c
        · exact (n2 (.inl c)).elim
      rcases h2 with h2 | ⟨e', h2⟩
      · by_cases c : z.time < x.time
        · exact n2 (.inr ⟨e1, .inl c⟩)
        · exact n1 (.inr ⟨by omega, .inl (by omega)⟩)
      · have e2 : x.time = z.time := by
          rcases Int.lt_trichotomy x.time z.time with c | c | c
          · exact (n1 (.inr ⟨by omega, .inl (by omega)⟩)).elim
          · exact c
          · exact (n2 (.inr ⟨e1, .inl c⟩)).elim
        rcases ltB_tri x.id z.id with c | c | c
        · exact n2 (.inr ⟨e1, .inr ⟨e2, c⟩⟩)
        · exact n1 (.inr ⟨by omega, .inr ⟨by omega, by rw [c]; exact h2⟩⟩)
        · exact n1 (.inr ⟨by omega, .inr ⟨by omega, ltB_trans h2 c⟩⟩)
theorem lt_le {x y z : Card} (h1 : lessC x y = true) (h2 : lessC z y = false) : lessC x z = true := by
  cases h : lessC x z with
  | true => rfl
  | false =>
    have := le_lt (x := z) (y := x) (z := y) h h1
    rw [this] at h2; cases h2
theorem le_trans' {x y z : Card} (h1 : lessC y x = false) (h2 : lessC z y = false) : lessC z x = false := by
  cases h : lessC z x with
  | false => rfl
  | true => have := le_lt h2 h; rw [this] at h1; cases h1
theorem le_of_lt' {x y : Card} (h : lessC x y = true) : lessC y x = false := less_asymm h
/-! ### Sorted, and stable -/
def Srt (l : List Card) : Prop := l.Pairwise fun x y => lessC y x = false
def eqk (c x : Card) : Bool := !lessC c x && !lessC x c
/-- r is l, sorted, with equals in their order -/
def SS (l r : List Card) : Prop := Srt r ∧ ∀ c, r.filter (eqk c) = l.filter (eqk c)
theorem eqk_iff (c x : Card) : eqk c x = true ↔ lessC c x = false ∧ lessC x c = false := by unfold eqk; simp
theorem merge_mem {A B : List Card} {x : Card} : ∀ n, A.length + B.length ≤ n → x ∈ mergeS A B → x ∈ A ∨ x ∈ B := by
  intro n
  induction n generalizing A B with
  | zero =>
    intro hl hx
    have h1 : A = [] := List.eq_nil_of_length_eq_zero (by omega)
    subst h1
    rw [merge_nil] at hx
    exact .inr hx
  | succ n ih =>
    intro hl hx
    cases A with
    | nil => rw [merge_nil] at hx; exact .inr hx
    | cons a A =>
      cases B with
      | nil => rw [merge_nil'] at hx; exact .inl hx
      | cons b B =>
        cases hab : lessC b a with
        | true =>
          rw [merge_lt _ _ hab] at hx
          rcases List.mem_cons.1 hx with rfl | hx
          · exact .inr (by simp)
          · rcases ih (A := a :: A) (B := B) (by simp at hl ⊢; omega) hx with h | h
            · exact .inl h
            · exact .inr (by simp [h])
        | false =>
          rw [merge_ge _ _ hab] at hx
          rcases List.mem_cons.1 hx with rfl | hx
          · exact .inl (by simp)
          · rcases ih (A := A) (B := b :: B) (by simp at hl ⊢; omega) hx with h | h
            · exact .inl (by simp [h])
            · exact .inr h
theorem merge_srt : ∀ (n : Nat) {A B : List Card}, A.length + B.length ≤ n → Srt A → Srt B → Srt (mergeS A B) ∧ ∀ c, (mergeS A B).filter (eqk c) = A.filter (eqk c) ++ B.filter (eqk c) := by
  intro n
  induction n with
  | zero =>
    intro A B hl _ hB
    have h1 : A = [] := List.eq_nil_of_length_eq_zero (by omega)
    subst h1
    rw [merge_nil]
    exact ⟨hB, fun c => rfl⟩
  | succ n ih =>
    intro A B hl hA hB
    cases A with
    | nil => rw [merge_nil]; exact ⟨hB, fun c => rfl⟩
    | cons a A =>
      cases B with
      | nil => rw [merge_nil']; exact ⟨hA, fun c => by simp⟩
      | cons b B =>
        have hA' := List.pairwise_cons.1 hA
        have hB' := List.pairwise_cons.1 hB
        cases hab : lessC b a with
        | true =>
          obtain ⟨i1, i2⟩ := ih (A := a :: A) (B := B) (by simp at hl ⊢; omega) hA hB'.2
          rw [merge_lt _ _ hab]
          refine ⟨List.pairwise_cons.2 ⟨fun x hx => ?_, i1⟩, fun c => ?_⟩
          · rcases merge_mem _ (Nat.le_refl _) hx with h | h
            · rcases List.mem_cons.1 h with rfl | h
              · exact less_asymm hab
              · exact le_trans' (less_asymm hab) (hA'.1 x h)
            · exact hB'.1 x h
          · rw [List.filter_cons, i2]
            by_cases hc : eqk c b = true
            · have hn : (a :: A).filter (eqk c) = [] := by
                rw [List.filter_eq_nil_iff]
                intro x hx hcx
                obtain ⟨c1, c2⟩ := (eqk_iff c b).1 hc
                obtain ⟨c3, c4⟩ := (eqk_iff c x).1 hcx
                have hbx : lessC b x = true := by
                  rcases List.mem_cons.1 hx with rfl | hx
                  · exact hab
                  · exact lt_le hab (hA'.1 x hx)
                have := le_lt c2 hbx
                rw [this] at c3; cases c3
              rw [if_pos hc, hn, List.filter_cons, if_pos hc]
              rfl
            · rw [if_neg hc]
              conv => rhs; rw [List.filter_cons (x := b), if_neg hc]
        | false =>
          obtain ⟨i1, i2⟩ := ih (A := A) (B := b :: B) (by simp at hl ⊢; omega) hA'.2 hB
          rw [merge_ge _ _ hab]
          refine ⟨List.pairwise_cons.2 ⟨fun x hx => ?_, i1⟩, fun c => ?_⟩
          · rcases merge_mem _ (Nat.le_refl _) hx with h | h
            · exact hA'.1 x h
            · rcases List.mem_cons.1 h with rfl | h
              · exact hab
              · exact le_trans' hab (hB'.1 x h)
          · rw [List.filter_cons, i2, List.filter_cons (x := a)]
            split <;> rfl
theorem SS.merge {l1 l2 r1 r2 : List Card} (h1 : SS l1 r1) (h2 : SS l2 r2) : SS (l1 ++ l2) (mergeS r1 r2) := by
  obtain ⟨m1, m2⟩ := merge_srt _ (Nat.le_refl _) h1.1 h2.1
  exact ⟨m1, fun c => by rw [m2, h1.2, h2.2, List.filter_append]⟩
theorem eqk_self (c : Card) : eqk c c = true := (eqk_iff c c).2 ⟨less_irrefl c, less_irrefl c⟩
/-- one sorted list alone -/
theorem SS.unique : ∀ {r r' : List Card}, Srt r → Srt r' → (∀ c, r.filter (eqk c) = r'.filter (eqk c)) → r = r'
  | [], [], _, _, _ => rfl
  | [], y :: r', _, _, h => by
    have := h y
    rw [List.filter_cons, if_pos (eqk_self y)] at this
    cases this
  | x :: r, [], _, _, h => by
    have := h x
    rw [List.filter_cons, if_pos (eqk_self x)] at this
    cases this
  | x :: r, y :: r', h1, h2, h => by
    have p1 := List.pairwise_cons.1 h1
    have p2 := List.pairwise_cons.1 h2
    have mem1 : x ∈ y :: r' := by
      have : x ∈ (y :: r').filter (eqk x) := by rw [← h x]; simp [eqk_self]
      exact (List.mem_filter.1 this).1
    have mem2 : y ∈ x :: r := by
      have : y ∈ (x :: r).filter (eqk y) := by rw [h y]; simp [eqk_self]
      exact (List.mem_filter.1 this).1
    have a1 : lessC x y = false := by
      rcases List.mem_cons.1 mem1 with e | hm
      · rw [e]; exact less_irrefl y
      · exact p2.1 x hm
    have a2 : lessC y x = false := by
      rcases List.mem_cons.1 mem2 with e | hm
      · rw [e]; exact less_irrefl x
      · exact p1.1 y hm
    have hxy : eqk x y = true := (eqk_iff x y).2 ⟨a1, a2⟩
    have hh := h x
    rw [List.filter_cons, if_pos (eqk_self x), List.filter_cons, if_pos hxy] at hh
    have e : x = y := (List.cons.inj hh).1
    subst e
    rw [SS.unique p1.2 p2.2 fun c => by
      have := h c
      rw [List.filter_cons, List.filter_cons] at this
      split at this
      · exact (List.cons.inj this).2
      · exact this]
theorem SS.eq {l r r' : List Card} (h : SS l r) (h' : SS l r') : r = r' := SS.unique h.1 h'.1 fun c => (h.2 c).trans (h'.2 c).symm
theorem srt_get {l : List Card} (h : Srt l) : ∀ {i j : Nat} {x y : Card}, l[i]? = some x → l[j]? = some y → i ≤ j → lessC y x = false := by
  intro i j x y hx hy hij
  by_cases e : i = j
  · subst e
    rw [hx] at hy
    obtain rfl := Option.some.inj hy
    exact less_irrefl x
  · obtain ⟨hi, rfl⟩ := List.getElem?_eq_some_iff.1 hx
    obtain ⟨hj, rfl⟩ := List.getElem?_eq_some_iff.1 hy
    exact List.pairwise_iff_getElem.1 h i j hi hj (by omega)
theorem merge_left {x : Card} {T1 T2 : List Card} (h1 : ∀ b ∈ T1, lessC b x = true) (h2 : ∀ b ∈ T2, lessC b x = false) : mergeS [x] (T1 ++ T2) = T1 ++ (x :: T2) := by
  have e := merge_cut (A1 := []) (A2 := [x]) (B1 := T1) (B2 := T2) (fun b hb a ha => by simp at ha; subst ha; exact h1 b hb) (fun a ha => by simp at ha)
  have e2 := merge_cut (A1 := [x]) (A2 := []) (B1 := []) (B2 := T2) (fun b hb => by simp at hb) (fun a ha b hb => by simp at ha; subst ha; exact h2 b hb)
  rw [List.nil_append, merge_nil] at e
  rw [List.append_nil, List.nil_append, merge_nil', merge_nil] at e2
  rw [e, e2]; rfl
theorem merge_right {y : Card} {T1 T2 : List Card} (h1 : ∀ a ∈ T1, lessC y a = false) (h2 : ∀ a ∈ T2, lessC y a = true) : mergeS (T1 ++ T2) [y] = T1 ++ (y :: T2) := by
  have e := merge_cut (A1 := T1) (A2 := T2) (B1 := [y]) (B2 := []) (fun b hb a ha => by simp at hb; subst hb; exact h2 a ha) (fun a ha b hb => by simp at hb)
  have e2 := merge_cut (A1 := T1) (A2 := []) (B1 := []) (B2 := [y]) (fun b hb => by simp at hb) (fun a ha b hb => by simp at hb; subst hb; exact h1 a ha)
  rw [List.append_nil, merge_nil'] at e
  rw [List.append_nil, List.nil_append, merge_nil', merge_nil] at e2
  rw [e, e2, List.append_assoc]; rfl
theorem swp_adj (P S : List Card) (x y : Card) {k j : Nat} (hk : P.length = k) (hj : j = k + 1) : swp k j (P ++ (x :: y :: S)) = P ++ (y :: x :: S) ∧ swp j k (P ++ (x :: y :: S)) = P ++ (y :: x :: S) := by
  subst hk hj
  constructor
  · apply List.ext_getElem?
    intro t
    rw [swp_get (by simp) (by simp) (by omega)]
    simp only [List.getElem?_append, List.getElem?_cons]
    repeat' split
    all_goals first
      | rfl
      | (exfalso; omega)
  · apply List.ext_getElem?
    intro t
    rw [swp_get (by simp) (by simp) (by omega)]
    simp only [List.getElem?_append, List.getElem?_cons]
    repeat' split
    all_goals first
      | rfl
      | (exfalso; omega)
theorem SS.nil : SS [] [] := ⟨List.Pairwise.nil, fun _ => rfl⟩
theorem SS.one (x : Card) : SS [x] [x] := ⟨by unfold Srt; simp, fun _ => rfl⟩
end Go.Proofs.YtjcaaiikccnpeaaDoor

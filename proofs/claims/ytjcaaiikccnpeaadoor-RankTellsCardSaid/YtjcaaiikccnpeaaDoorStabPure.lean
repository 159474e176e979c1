/- Blocks of sorted cards; plain. -/
import Derived.Test.YtjcaaiikccnpeaaDoorMergePure
namespace Go.Proofs.YtjcaaiikccnpeaaDoor
open Go Go.Lib
set_option linter.unusedVariables false

/-- the stable sort -/
def sortS (l : List Card) : List Card := l.foldl (fun acc x => mergeS acc [x]) []
theorem fold_SS : ∀ (l p r : List Card), SS p r → SS (p ++ l) (l.foldl (fun acc x => mergeS acc [x]) r)
  | [], p, r, h => by rw [List.append_nil]; exact h
  | x :: l, p, r, h => by
    have := fold_SS l (p ++ [x]) (mergeS r [x]) (h.merge (SS.one x))
    rw [List.append_assoc] at this
    exact this
theorem sort_SS (l : List Card) : SS l (sortS l) := fold_SS l [] [] SS.nil
theorem SS.is {l r : List Card} (h : SS l r) : r = sortS l := h.eq (sort_SS l)
theorem fold_length : ∀ (l r : List Card), (l.foldl (fun acc x => mergeS acc [x]) r).length = r.length + l.length
  | [], r => rfl
  | x :: l, r => by
    have := fold_length l (mergeS r [x])
    rw [List.foldl_cons, this, merge_len]
    simp; omega
theorem sortS_length (l : List Card) : (sortS l).length = l.length := by unfold sortS; rw [fold_length]; simp
/-! ### Insertion -/
theorem swapL_swp (l : List Card) (j : Nat) : swapL l j = swp j (j - 1) l := rfl
theorem bub_app (P S : List Card) (x : Card) : ∀ (n : Nat) (T : List Card), T.length = n → Srt T → bub P.length (P.length + n) (P ++ (T ++ (x :: S))) = P ++ (mergeS T [x] ++ S) := by
  intro n
  induction n generalizing S with
  | zero =>
    intro T hT _
    have : T = [] := List.eq_nil_of_length_eq_zero hT
    subst this
    rw [merge_nil, bub_stop (by omega)]
    rfl
  | succ n ih =>
    intro T hT hs
    have hne : T ≠ [] := by intro h; subst h; simp at hT
    obtain ⟨T', y, rfl⟩ : ∃ T' y, T = T' ++ [y] := ⟨T.dropLast, T.getLast hne, (List.dropLast_concat_getLast hne).symm⟩
    rw [List.length_append] at hT
    simp only [List.length_cons, List.length_nil, Nat.zero_add] at hT
    have hT' : T'.length = n := by omega
    have hform : P ++ ((T' ++ [y]) ++ (x :: S)) = (P ++ T') ++ (y :: x :: S) := by simp
    have hPT : (P ++ T').length = P.length + n := by rw [List.length_append]; omega
    have gy : (P ++ ((T' ++ [y]) ++ (x :: S)))[P.length + n]? = some y := by
      rw [hform, List.getElem?_append_right (by omega), hPT, Nat.sub_self]; rfl
    have gx : (P ++ ((T' ++ [y]) ++ (x :: S)))[P.length + (n + 1)]? = some x := by
      rw [hform, List.getElem?_append_right (by omega), hPT, show P.length + (n + 1) - (P.length + n) = 1 by omega]; rfl
    have hs' := List.pairwise_append.1 hs
    cases hxy : lessC x y with
    | true =>
      rw [bub_go (by omega) (by rw [getD_eq, getD_eq, gx, show P.length + (n + 1) - 1 = P.length + n by omega, gy]; exact hxy)]
      rw [swapL_swp, show P.length + (n + 1) - 1 = P.length + n by omega, hform, (swp_adj (P ++ T') S y x (k := P.length + n) (j := P.length + (n + 1)) hPT (by omega)).2]
      have e : (P ++ T') ++ (x :: y :: S) = P ++ (T' ++ (x :: (y :: S))) := by simp
      rw [e, ih (y :: S) T' hT' hs'.1]
      have hm := merge_cut (A1 := T') (A2 := [y]) (B1 := [x]) (B2 := []) (fun b hb a ha => by simp at ha hb; subst ha hb; exact hxy) (fun a _ b hb => by simp at hb)
      rw [List.append_nil, merge_nil'] at hm
      rw [hm]
      simp
    | false =>
      rw [bub_stop (by
        rintro ⟨_, h⟩
        rw [getD_eq, getD_eq, gx, show P.length + (n + 1) - 1 = P.length + n by omega, gy] at h
        rw [show lessC ((some x).getD noC) ((some y).getD noC) = lessC x y from rfl, hxy] at h
        cases h)]
      have hm := merge_cut (A1 := T' ++ [y]) (A2 := []) (B1 := []) (B2 := [x]) (fun b hb => by simp at hb) (fun a ha b hb => by
        simp at hb
        subst hb
        rcases List.mem_append.1 ha with h | h
        · exact le_trans' (hs'.2.2 a h y (by simp)) hxy
        · simp at h; subst h; exact hxy)
      rw [List.append_nil, List.nil_append, merge_nil', merge_nil] at hm
      rw [hm]
      simp
theorem insN_app (P L S : List Card) : ∀ k, k + 1 ≤ L.length → ∃ R, insN P.length k (P ++ (L ++ S)) = P ++ (R ++ (L.drop (k + 1) ++ S)) ∧ SS (L.take (k + 1)) R := by
  intro k
  induction k with
  | zero =>
    intro h
    cases L with
    | nil => simp at h
    | cons x L => exact ⟨[x], rfl, by simp [SS.one]⟩
  | succ k ih =>
    intro h
    obtain ⟨R, h1, h2⟩ := ih (by omega)
    have hx : L.drop (k + 1) = L[k + 1] :: L.drop (k + 2) := List.drop_eq_getElem_cons (by omega)
    have hR : R.length = k + 1 := by
      have := congrArg List.length h1
      rw [insN_length] at this
      simp only [List.length_append, List.length_drop] at this
      omega
    refine ⟨mergeS R [L[k + 1]], ?_, ?_⟩
    · rw [insN, h1, hx, show P.length + 1 + k = P.length + (k + 1) by omega, List.cons_append]
      exact bub_app P _ _ _ R hR h2.1
    · have := h2.merge (SS.one L[k + 1])
      rw [List.take_succ_eq_append_getElem (by omega)]
      exact this
theorem ins_sort (P L S : List Card) : insN P.length (L.length - 1) (P ++ (L ++ S)) = P ++ (sortS L ++ S) := by
  by_cases h : L.length = 0
  · have := List.eq_nil_of_length_eq_zero h
    subst this
    rfl
  · obtain ⟨R, h1, h2⟩ := insN_app P L S (L.length - 1) (by omega)
    rw [show L.length - 1 + 1 = L.length by omega, List.take_length] at h2
    rw [show L.length - 1 + 1 = L.length by omega, List.drop_length] at h1
    rw [h1, h2.is]
    rfl
/-! ### Blocks -/
def blk (bs i : Nat) (l : List Card) : List Card := (l.drop (bs * i)).take bs
theorem blk_len (bs i : Nat) (l : List Card) : (blk bs i l).length = min bs (l.length - bs * i) := by unfold blk; rw [List.length_take, List.length_drop]
theorem blk_split (bs i : Nat) (l : List Card) : l = l.take (bs * i) ++ (blk bs i l ++ l.drop (bs * i + bs)) := by
  unfold blk
  conv => lhs; rw [← List.take_append_drop (bs * i) l, ← List.take_append_drop bs (l.drop (bs * i))]
  rw [List.drop_drop]
theorem blk_two (bs t : Nat) (l : List Card) : blk (2 * bs) t l = blk bs (2 * t) l ++ blk bs (2 * t + 1) l := by
  unfold blk
  have e1 : 2 * bs * t = bs * (2 * t) := by rw [Nat.mul_comm 2 bs, Nat.mul_assoc]
  have e2 : bs * (2 * t + 1) = bs * (2 * t) + bs := by rw [Nat.mul_add, Nat.mul_one]
  rw [e1, e2, ← List.drop_drop, show 2 * bs = bs + bs by omega, List.take_add]
theorem blk_left {bs i a : Nat} {L X : List Card} (ha : a ≤ L.length) (h : bs * i + bs ≤ a) : blk bs i (L.take a ++ X) = blk bs i L := by
  unfold blk
  have hl : (L.take a).length = a := by rw [List.length_take]; omega
  rw [List.drop_append_of_le_length (by omega), List.take_append_of_le_length (by rw [List.length_drop]; omega), List.drop_take, List.take_take]
  congr 1
  omega
theorem blk_right {bs j c : Nat} {L Y : List Card} (hY : Y.length = c) (h : c ≤ bs * j) : blk bs j (Y ++ L.drop c) = blk bs j L := by
  unfold blk
  rw [List.drop_append, hY, List.drop_eq_nil_of_le (by omega), List.nil_append, List.drop_drop]
  congr 2
  omega
theorem blk_mid {bs t : Nat} {P Z R : List Card} (hP : P.length = bs * t) (hZ : Z.length = bs ∨ (Z.length ≤ bs ∧ R = [])) : blk bs t (P ++ (Z ++ R)) = Z := by
  unfold blk
  rw [List.drop_append, hP, Nat.sub_self, List.drop_eq_nil_of_le (by omega), List.nil_append, List.drop_zero]
  rcases hZ with h | ⟨h, rfl⟩
  · rw [← h, List.take_append_of_le_length (Nat.le_refl _), List.take_length]
  · rw [List.append_nil, List.take_of_length_le h]
theorem blk_empty {bs i : Nat} {l : List Card} (h : l.length ≤ bs * i) : blk bs i l = [] := by
  unfold blk
  rw [List.drop_eq_nil_of_le h, List.take_nil]
def AllSS (bs : Nat) (l L : List Card) : Prop := ∀ i, SS (blk bs i l) (blk bs i L)
theorem AllSS.done {bs : Nat} {l L : List Card} (h : AllSS bs l L) (hl : L.length = l.length) (hb : l.length ≤ bs) : L = sortS l := by
  have := h 0
  unfold blk at this
  rw [Nat.mul_zero, List.drop_zero, List.drop_zero, List.take_of_length_le hb, List.take_of_length_le (by omega)] at this
  exact this.is
/-- the state of the first loop, and of the third -/
def St1 (t : Nat) (l L : List Card) : Prop := L.length = l.length ∧ L.drop (20 * t) = l.drop (20 * t) ∧ ∀ i, i < t → SS (blk 20 i l) (blk 20 i L)
def St3 (bs t : Nat) (l L : List Card) : Prop := L.length = l.length ∧ (∀ i, i < t → SS (blk (2 * bs) i l) (blk (2 * bs) i L)) ∧ ∀ j, 2 * t ≤ j → SS (blk bs j l) (blk bs j L)
theorem St1.start (l : List Card) : St1 0 l l := ⟨rfl, rfl, fun i h => by omega⟩
theorem St1.step {t : Nat} {l L : List Card} (h : St1 t l L) (ht : 20 * t + 20 ≤ l.length) : St1 (t + 1) l (L.take (20 * t) ++ (sortS (blk 20 t L) ++ L.drop (20 * t + 20))) := by
  obtain ⟨h1, h2, h3⟩ := h
  have hb : (blk 20 t L).length = 20 := by rw [blk_len]; omega
  have hp : (L.take (20 * t)).length = 20 * t := by rw [List.length_take]; omega
  have hs : (sortS (blk 20 t L)).length = 20 := by rw [sortS_length, hb]
  have hY : (L.take (20 * t) ++ sortS (blk 20 t L)).length = 20 * t + 20 := by rw [List.length_append]; omega
  refine ⟨by simp only [List.length_append, List.length_drop]; omega, ?_, fun i hi => ?_⟩
  · rw [← List.append_assoc, show 20 * (t + 1) = 20 * t + 20 by omega, List.drop_append, hY, Nat.sub_self, List.drop_eq_nil_of_le (by omega), List.nil_append, List.drop_zero, ← List.drop_drop, h2, List.drop_drop]
  · by_cases e : i = t
    · subst e
      rw [blk_mid hp (.inl hs)]
      have : blk 20 i l = blk 20 i L := by unfold blk; rw [h2]
      rw [this]
      exact sort_SS _
    · rw [blk_left (by omega) (by omega)]
      exact h3 i (by omega)
theorem St1.last {t : Nat} {l L : List Card} (h : St1 t l L) (h1 : 20 * t ≤ l.length) (h2 : l.length < 20 * t + 20) : AllSS 20 l (L.take (20 * t) ++ (sortS (L.drop (20 * t)) ++ [])) ∧ (L.take (20 * t) ++ (sortS (L.drop (20 * t)) ++ [])).length = l.length := by
  obtain ⟨g1, g2, g3⟩ := h
  have hp : (L.take (20 * t)).length = 20 * t := by rw [List.length_take]; omega
  have hd : (L.drop (20 * t)).length = l.length - 20 * t := by rw [List.length_drop]; omega
  have hs : (sortS (L.drop (20 * t))).length = l.length - 20 * t := by rw [sortS_length, hd]
  have hlen : (L.take (20 * t) ++ (sortS (L.drop (20 * t)) ++ [])).length = l.length := by simp only [List.length_append, List.length_nil]; omega
  refine ⟨fun i => ?_, hlen⟩
  rcases Nat.lt_trichotomy i t with e | e | e
  · rw [blk_left (by omega) (by omega)]
    exact g3 i e
  · subst e
    rw [blk_mid hp (.inr ⟨by omega, rfl⟩)]
    have : blk 20 i l = L.drop (20 * i) := by
      unfold blk
      rw [← g2, List.take_of_length_le (by omega)]
    rw [this]
    exact sort_SS _
  · rw [blk_empty (by omega), blk_empty (by omega)]
    exact SS.nil
theorem St3.start {bs : Nat} {l L : List Card} (h : AllSS bs l L) (hl : L.length = l.length) : St3 bs 0 l L := ⟨hl, fun i hi => by omega, fun j _ => h j⟩
/-- a merge of two blocks; the second may be short -/
theorem St3.step {bs t : Nat} {l L : List Card} (h : St3 bs t l L) (hb : 0 < bs) (ht : 2 * bs * t + bs < l.length) :
    St3 bs (t + 1) l (L.take (2 * bs * t) ++ (mergeS (blk bs (2 * t) L) (blk bs (2 * t + 1) L) ++ L.drop (2 * bs * t + 2 * bs))) := by
  obtain ⟨h1, h2, h3⟩ := h
  have e1 : bs * (2 * t) = 2 * bs * t := by rw [← Nat.mul_assoc, Nat.mul_comm bs 2]
  have e2 : bs * (2 * t + 1) = 2 * bs * t + bs := by rw [Nat.mul_add, Nat.mul_one, e1]
  have b1 : (blk bs (2 * t) L).length = bs := by rw [blk_len, e1]; omega
  have b2 : (blk bs (2 * t + 1) L).length = min bs (l.length - (2 * bs * t + bs)) := by rw [blk_len, e2, h1]
  have hp : (L.take (2 * bs * t)).length = 2 * bs * t := by rw [List.length_take]; omega
  have hm : (mergeS (blk bs (2 * t) L) (blk bs (2 * t + 1) L)).length = bs + min bs (l.length - (2 * bs * t + bs)) := by rw [merge_len, b1, b2]
  have e3 : ∀ i, 2 * bs * (i + 1) = 2 * bs * i + 2 * bs := fun i => by rw [Nat.mul_add, Nat.mul_one]
  refine ⟨by simp only [List.length_append, List.length_drop]; omega, fun i hi => ?_, fun j hj => ?_⟩
  · by_cases e : i = t
    · subst e
      rw [blk_mid hp]
      · rw [blk_two]
        exact (h3 (2 * i) (by omega)).merge (h3 (2 * i + 1) (by omega))
      · by_cases hf : 2 * bs * i + 2 * bs ≤ l.length
        · exact .inl (by omega)
        · exact .inr ⟨by omega, List.drop_eq_nil_of_le (by omega)⟩
    · have hit : 2 * bs * (i + 1) ≤ 2 * bs * t := Nat.mul_le_mul_left _ (by omega)
      rw [e3] at hit
      rw [blk_left (by omega) (by omega)]
      exact h2 i (by omega)
  · have hjt : bs * (2 * (t + 1)) ≤ bs * j := Nat.mul_le_mul_left _ hj
    have e4 : bs * (2 * (t + 1)) = 2 * bs * t + 2 * bs := by rw [show 2 * (t + 1) = 2 * t + 2 by omega, Nat.mul_add, e1]; omega
    by_cases hf : 2 * bs * t + 2 * bs ≤ l.length
    · rw [← List.append_assoc, blk_right (c := 2 * bs * t + 2 * bs) (by rw [List.length_append]; omega) (by omega)]
      exact h3 j (by omega)
    · rw [blk_empty (by omega), blk_empty (by simp only [List.length_append, List.length_drop]; omega)]
      exact SS.nil
/-- the third loop is over, no merge behind it -/
theorem St3.short {bs t : Nat} {l L : List Card} (h : St3 bs t l L) (hb : 0 < bs) (ht : l.length ≤ 2 * bs * t + bs) : AllSS (2 * bs) l L := by
  obtain ⟨h1, h2, h3⟩ := h
  have e1 : bs * (2 * t) = 2 * bs * t := by rw [← Nat.mul_assoc, Nat.mul_comm bs 2]
  have e2 : bs * (2 * t + 1) = 2 * bs * t + bs := by rw [Nat.mul_add, Nat.mul_one, e1]
  intro i
  rcases Nat.lt_trichotomy i t with e | e | e
  · exact h2 i e
  · subst e
    rw [blk_two, blk_two, blk_empty (i := 2 * i + 1) (by omega), blk_empty (i := 2 * i + 1) (by omega), List.append_nil, List.append_nil]
    exact h3 _ (Nat.le_refl _)
  · have hit : 2 * bs * (t + 1) ≤ 2 * bs * i := Nat.mul_le_mul_left _ (by omega)
    have e3 : 2 * bs * (t + 1) = 2 * bs * t + 2 * bs := by rw [Nat.mul_add, Nat.mul_one]
    rw [blk_empty (by omega), blk_empty (by omega)]
    exact SS.nil
theorem St3.all {bs t : Nat} {l L : List Card} (h : St3 bs t l L) (ht : l.length ≤ 2 * bs * t) : AllSS (2 * bs) l L := by
  obtain ⟨h1, h2, h3⟩ := h
  intro i
  by_cases e : i < t
  · exact h2 i e
  · have hit : 2 * bs * t ≤ 2 * bs * i := Nat.mul_le_mul_left _ (by omega)
    rw [blk_empty (by omega), blk_empty (by omega)]
    exact SS.nil
end Go.Proofs.YtjcaaiikccnpeaaDoor

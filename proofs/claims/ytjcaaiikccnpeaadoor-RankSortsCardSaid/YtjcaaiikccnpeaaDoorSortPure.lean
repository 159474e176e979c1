/- Sorting again, sorting cards of different Ids; plain. -/
import Derived.Test.YtjcaaiikccnpeaaDoorDifCount
namespace Go.Proofs.YtjcaaiikccnpeaaDoor
open Go Go.Lib
set_option linter.unusedVariables false

theorem sort_again (l : List Card) : sortS (sortS l) = sortS l := (SS.is (l := sortS l) (r := sortS l) ⟨(sort_SS l).1, fun _ => rfl⟩).symm
theorem eqk_id {c x : Card} (h : eqk c x = true) : x.id = c.id := by
  obtain ⟨h1, h2⟩ := (eqk_iff c x).1 h
  exact ((less_eq c x).1 ⟨h1, h2⟩).2.2.symm
theorem dif_one {l : List Card} (h : Dif l) (c : Card) : (l.filter (eqk c)).length ≤ 1 := by
  have hp : l.Pairwise (fun x y => x.id ≠ y.id) := List.pairwise_iff_getElem.2 fun i j hi hj hij => (h j i _ _ hij (List.getElem?_eq_getElem hj) (List.getElem?_eq_getElem hi)).symm
  have hf := hp.filter (eqk c)
  have hm : ∀ x, x ∈ l.filter (eqk c) → eqk c x = true := fun x hx => (List.mem_filter.1 hx).2
  generalize l.filter (eqk c) = F at *
  match F with
  | [] => simp
  | [x] => simp
  | x :: y :: r =>
    exfalso
    have h1 := (List.pairwise_cons.1 hf).1 y (by simp)
    exact h1 ((eqk_id (hm x (by simp))).trans (eqk_id (hm y (by simp))).symm)
theorem rev_one {l : List Card} (h : l.length ≤ 1) : l.reverse = l := by
  match l with
  | [] => rfl
  | [x] => rfl
  | x :: y :: r => simp at h
theorem dif_back {l : List Card} (h : Dif l) : sortS l.reverse = sortS l :=
  (SS.is (l := l.reverse) (r := sortS l) ⟨(sort_SS l).1, fun c => by rw [(sort_SS l).2 c, List.filter_reverse, rev_one (dif_one h c)]⟩).symm
theorem dif_less {l : List Card} (h : Dif l) {i : Nat} {x y : Card} (hx : (sortS l)[i]? = some x) (hy : (sortS l)[i + 1]? = some y) : lessC x y = true := by
  cases e : lessC x y with
  | true => rfl
  | false =>
    exfalso
    have h1 : lessC y x = false := srt_get (sort_SS l).1 hx hy (by omega)
    have h2 := dif_one h x
    rw [← (sort_SS l).2 x] at h2
    obtain ⟨hi, rfl⟩ := List.getElem?_eq_some_iff.1 hx
    obtain ⟨hj, rfl⟩ := List.getElem?_eq_some_iff.1 hy
    have hs : sortS l = (sortS l).take i ++ ((sortS l)[i] :: (sortS l)[i + 1] :: (sortS l).drop (i + 2)) := by
      rw [← List.drop_eq_getElem_cons, ← List.drop_eq_getElem_cons, List.take_append_drop]
    have k1 : eqk (sortS l)[i] (sortS l)[i] = true := eqk_self _
    have k2 : eqk (sortS l)[i] (sortS l)[i + 1] = true := (eqk_iff _ _).2 ⟨e, h1⟩
    generalize (sortS l)[i] = x at *
    generalize (sortS l)[i + 1] = y at *
    rw [hs, List.filter_append, List.filter_cons_of_pos k1, List.filter_cons_of_pos k2] at h2
    simp at h2
    omega
/-- the cards from the end on -/
def backL (l : List Card) (m : Nat) : List Card := (l.drop m).reverse
theorem backL_len (l : List Card) (m : Nat) : (backL l m).length = l.length - m := by unfold backL; simp
theorem backL_step {l : List Card} {m : Nat} {y : Card} (h : l[m]? = some y) : backL l m = backL l (m + 1) ++ [y] := by
  obtain ⟨hm, rfl⟩ := List.getElem?_eq_some_iff.1 h
  unfold backL
  rw [List.drop_eq_getElem_cons hm, List.reverse_cons]
theorem backL_end {l : List Card} {m : Nat} (h : l.length ≤ m) : backL l m = [] := by unfold backL; rw [List.drop_eq_nil_of_le h]; rfl
theorem backL_all (l : List Card) : backL l 0 = l.reverse := rfl
end Go.Proofs.YtjcaaiikccnpeaaDoor

/- A page and the next one; plain. -/
import Derived.Test.YtemdecaiadkchaaPgWPure
namespace Go.Proofs.Ytemdecaiadkchaa
open Go.ChangeShapes Go.WideShapes Go.ChangeAt Go.RowKit Go.Lib
set_option linter.unusedVariables false

theorem str_sorted {l : List Card} (h : Dif l) : (sortS l).Pairwise (fun x y => lessC x y = true) :=
  List.pairwise_iff_getElem.2 fun i j hi hj hij => by
    obtain ⟨d, rfl⟩ : ∃ d, j = i + 1 + d := ⟨j - i - 1, by omega⟩
    exact dif_lt h d i _ _ (List.getElem?_eq_getElem hi) (List.getElem?_eq_getElem hj)
theorem pass_up {k : Mk} {c x : Card} (hc : passB k c = true) (h : lessC c x = true) : passB k x = true := by
  unfold passB at *
  rw [Bool.or_eq_true] at *
  rcases hc with hc | hc
  · exact .inl hc
  · exact .inr (less_trans hc h)
/-- behind the last card of a page: what follows it -/
theorem filter_next {X : List Card} (hX : X.Pairwise (fun x y => lessC x y = true)) (k : Mk) {a : Nat} (h0 : (X.filter (passB k)).take a ≠ []) :
    X.filter (passB (nextM k ((X.filter (passB k)).take a))) = (X.filter (passB k)).drop a := by
  obtain ⟨c, hc⟩ : ∃ c, ((X.filter (passB k)).take a).getLast? = some c := ⟨_, List.getLast?_eq_some_getLast h0⟩
  have hm : nextM k ((X.filter (passB k)).take a) = ⟨k.now, c.score, c.time, c.id, false⟩ := by unfold nextM; rw [hc]
  have hF := hX.filter (passB k)
  have hcm : c ∈ X.filter (passB k) := List.mem_of_mem_take (List.mem_of_getLast? hc)
  have hpc := (List.mem_filter.1 hcm).2
  rw [hm]
  have e0 : X.filter (passB ⟨k.now, c.score, c.time, c.id, false⟩) = (X.filter (passB k)).filter (passB ⟨k.now, c.score, c.time, c.id, false⟩) := by
    rw [List.filter_filter]
    apply List.filter_congr
    intro x _
    rw [pass_mark]
    cases e : lessC c x with
    | false => simp
    | true => simp [pass_up hpc e]
  rw [e0]
  generalize X.filter (passB k) = F at *
  obtain ⟨T, hT⟩ : ∃ T, F.take a = T ++ [c] := ⟨(F.take a).dropLast, by
    have := List.dropLast_concat_getLast h0
    rw [List.getLast?_eq_some_getLast h0] at hc
    rw [Option.some.inj hc] at this
    exact this.symm⟩
  have hs : F = (T ++ [c]) ++ F.drop a := by rw [← hT, List.take_append_drop]
  rw [hs] at hF
  obtain ⟨h1, h2, h3⟩ := List.pairwise_append.1 hF
  obtain ⟨_, _, h4⟩ := List.pairwise_append.1 h1
  conv => lhs; rw [hs, List.filter_append]
  have e1 : (T ++ [c]).filter (passB ⟨k.now, c.score, c.time, c.id, false⟩) = [] := by
    rw [List.filter_eq_nil_iff]
    intro x hx
    rw [pass_mark]
    rcases List.mem_append.1 hx with hx | hx
    · rw [less_asymm (h4 x hx c (by simp))]; simp
    · simp at hx; subst hx; rw [less_irrefl]; simp
  have e2 : (F.drop a).filter (passB ⟨k.now, c.score, c.time, c.id, false⟩) = F.drop a := by
    rw [List.filter_eq_self]
    intro x hx
    rw [pass_mark]
    exact h3 c (by simp) x hx
  rw [e1, e2, List.nil_append]
/-- the pages of the law -/
theorem two_pages {X : List Card} (hX : X.Pairwise (fun x y => lessC x y = true)) (k : Mk) {a b : Nat} (h0 : (X.filter (passB k)).take a ≠ []) :
    pageL (nextM k (pageL k X a)) X b = ((X.filter (passB k)).drop a).take b ∧ pageL k X (a + b) = pageL k X a ++ ((X.filter (passB k)).drop a).take b ∧
      moreB (nextM k (pageL k X a)) X b = moreB k X (a + b) ∧ nextM (nextM k (pageL k X a)) (((X.filter (passB k)).drop a).take b) = nextM k (pageL k X (a + b)) := by
  have e := filter_next hX k h0
  have e2 : pageL k X (a + b) = pageL k X a ++ ((X.filter (passB k)).drop a).take b := by unfold pageL; rw [List.take_add]
  refine ⟨by unfold pageL; rw [e], e2, ?_, by rw [e2, nextM_app]⟩
  unfold moreB pageL
  rw [e, List.length_drop]
  by_cases h : a + b < (X.filter (passB k)).length
  · rw [decide_eq_true h, decide_eq_true (by omega)]
  · rw [decide_eq_false h, decide_eq_false (by omega)]
theorem pages_nil {X : List Card} {k : Mk} (h : X.filter (passB k) = []) (q : Nat) : pageL k X q = [] ∧ moreB k X q = false ∧ nextM k (pageL k X q) = k := by
  unfold pageL moreB
  rw [h]
  exact ⟨List.take_nil, by simp, by rw [List.take_nil]; rfl⟩
theorem rest_same {X : List Card} (k : Mk) (q : Nat) : pageL k (X.filter (passB k)) q = pageL k X q ∧ moreB k (X.filter (passB k)) q = moreB k X q := by
  unfold pageL moreB
  rw [List.filter_filter]
  simp
end Go.Proofs.Ytemdecaiadkchaa

/- Pages of sorted cards; plain. -/
import Derived.Test.YtemdecaiadkchaaPgSize
namespace Go.Proofs.Ytemdecaiadkchaa
open Go.ChangeShapes Go.WideShapes Go.ChangeAt Go.RowKit Go.Lib
set_option linter.unusedVariables false

theorem dif_lt {l : List Card} (h : Dif l) : ∀ (d i : Nat) (x y : Card), (sortS l)[i]? = some x → (sortS l)[i + 1 + d]? = some y → lessC x y = true
  | 0, i, x, y, hx, hy => dif_less h hx hy
  | d + 1, i, x, y, hx, hy => by
    have hlt : i + 1 + d < (sortS l).length := by have := (List.getElem?_eq_some_iff.1 hy).1; omega
    exact less_trans (dif_lt h d i x _ hx (List.getElem?_eq_getElem hlt)) (dif_less h (List.getElem?_eq_getElem hlt) (by rw [show i + 1 + d + 1 = i + 1 + (d + 1) by omega]; exact hy))
theorem nextM_now (k : Mk) (l : List Card) : (nextM k l).now = k.now := by unfold nextM; split <;> rfl
theorem nextM_app (k : Mk) (a b : List Card) : nextM (nextM k a) b = nextM k (a ++ b) := by
  cases b with
  | nil => rw [List.append_nil]; rfl
  | cons c t =>
    have h1 : (c :: t).getLast? = some ((c :: t).getLast (by simp)) := List.getLast?_eq_some_getLast (by simp)
    unfold nextM
    rw [List.getLast?_append, h1]
    simp only [Option.some_or]
    congr 1
    exact nextM_now k a
theorem nextM_at {k : Mk} {X : List Card} {i : Nat} {c : Card} (h : X[i]? = some c) : nextM k (X.take (i + 1)) = ⟨k.now, c.score, c.time, c.id, false⟩ := by
  obtain ⟨hi, rfl⟩ := List.getElem?_eq_some_iff.1 h
  rw [List.take_succ_eq_append_getElem hi, nextM_snoc]
theorem pass_mark (n : Int) (c x : Card) : passB ⟨n, c.score, c.time, c.id, false⟩ x = lessC c x := rfl
theorem filter_drop {l : List Card} (h : Dif l) (now : Int) {p : Nat} (hp : p ≤ (sortS l).length) : (sortS l).filter (passB (nextM (beginM now) ((sortS l).take p))) = (sortS l).drop p := by
  cases p with
  | zero =>
    rw [List.take_zero, nextM_nil, List.drop_zero, List.filter_eq_self]
    intro x _
    rfl
  | succ p =>
    obtain ⟨c, hc⟩ : ∃ c, (sortS l)[p]? = some c := ⟨_, List.getElem?_eq_getElem (by omega)⟩
    rw [nextM_at hc]
    conv => lhs; rw [← List.take_append_drop (p + 1) (sortS l), List.filter_append]
    have e1 : ((sortS l).take (p + 1)).filter (passB ⟨(beginM now).now, c.score, c.time, c.id, false⟩) = [] := by
      rw [List.filter_eq_nil_iff]
      intro x hx
      obtain ⟨i, hi⟩ := List.mem_iff_getElem?.1 hx
      rw [List.getElem?_take] at hi
      split at hi
      · rw [pass_mark, srt_get (sort_SS l).1 hi hc (by omega)]; simp
      · cases hi
    have e2 : ((sortS l).drop (p + 1)).filter (passB ⟨(beginM now).now, c.score, c.time, c.id, false⟩) = (sortS l).drop (p + 1) := by
      rw [List.filter_eq_self]
      intro x hx
      obtain ⟨i, hi⟩ := List.mem_iff_getElem?.1 hx
      rw [List.getElem?_drop] at hi
      rw [pass_mark]
      exact dif_lt h i p c x hc hi
    rw [e1, e2, List.nil_append]
/-- a page of sorted cards -/
theorem page_at {l : List Card} (h : Dif l) (now : Int) {p q : Nat} (hp : p ≤ (sortS l).length) :
    pageL (nextM (beginM now) ((sortS l).take p)) (sortS l) q = ((sortS l).drop p).take q ∧ moreB (nextM (beginM now) ((sortS l).take p)) (sortS l) q = decide (q < (sortS l).length - p) ∧
      nextM (nextM (beginM now) ((sortS l).take p)) (((sortS l).drop p).take q) = nextM (beginM now) ((sortS l).take (p + min q ((sortS l).length - p))) := by
  refine ⟨by unfold pageL; rw [filter_drop h now hp], by unfold moreB; rw [filter_drop h now hp, List.length_drop], ?_⟩
  rw [nextM_app]
  congr 1
  have : ((sortS l).drop p).take q = ((sortS l).drop p).take (min q ((sortS l).length - p)) := by
    rw [List.take_eq_take_iff, List.length_drop]; omega
  rw [this, ← List.take_add]
theorem page_get {l : List Card} {p q j : Nat} (hj : j < min q ((sortS l).length - p)) : (((sortS l).drop p).take q)[j]? = (sortS l)[p + j]? := by
  rw [List.getElem?_take_of_lt (by omega), List.getElem?_drop]
theorem differ_c (l : List Card) (A : Option Addr) (C : Nat) (w : World) (hn : l.length ≤ 1000000) (hl : CRow w A l) : Calls Try.prog 11 #[.slice A l.length C] w (DifP w l) := by
  by_cases h0 : 0 < l.length
  · obtain ⟨b, o, rfl, _⟩ := hl h0
    exact differ_some l b o C w hn hl
  · have := List.eq_nil_of_length_eq_zero (show l.length = 0 by omega)
    subst this
    exact (differ_zero A C w).mono fun e w' ⟨h1, h2⟩ => ⟨true, h1, fun _ i j x y _ h => by simp at h, h2⟩
theorem sort_c (l : List Card) (A : Option Addr) (C : Nat) (w : World) (hn : l.length ≤ 1000000) (hl : CRow w A l) : Calls Try.prog 12 #[.slice A l.length C] w (SortedP w (sortS l)) := by
  by_cases h0 : 0 < l.length
  · obtain ⟨b, o, rfl, _⟩ := hl h0
    exact sort_some l b o C w hn hl
  · have := List.eq_nil_of_length_eq_zero (show l.length = 0 by omega)
    subst this
    exact (sort_zero A C w).mono fun e w' ⟨A', C', h1, h2⟩ => ⟨A', C', h1, fun h => by simp [sortS] at h, h2⟩
end Go.Proofs.Ytemdecaiadkchaa

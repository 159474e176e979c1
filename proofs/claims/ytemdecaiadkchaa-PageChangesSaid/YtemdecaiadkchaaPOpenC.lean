/- A list of cards that came in: nil has no room. -/
import Derived.Test.YtemdecaiadkchaaPOpenN
namespace Go.Proofs.Ytemdecaiadkchaa
open Go.Joins Go.ChangeShapes Go.WideShapes Go.RowKit Go.Deep
set_option linter.unusedVariables false

theorem cards_cap {H : Type} {enc : TypeId × Value → H} {w : World} {base : Nat} {spare : Nat → Bool} {held : Bool} {A : Option Addr} {n C : Nat} {d : DataW H} {p : List MemPlace}
    (h : DataW.Trod enc Try.prog w base spare held 30 (.slice A n C) d p) : A = none → C = 0 := by
  obtain ⟨fuel, hf⟩ := h
  rcases open_slice_fields Try.underlying30 Try.underlying39 (by kernel_rfl) (by kernel_rfl) hf with ⟨hcs, hx⟩ | ⟨a', len', cap', m, D, Pl, hcs, _, hl, hm, hmm, hx, hi⟩
  · simp [Value.cells] at hcs
    obtain ⟨rfl, rfl, rfl⟩ := hcs
    intro _
    rfl
  · simp [Value.cells] at hcs
    obtain ⟨rfl, rfl, rfl⟩ := hcs
    intro e
    cases e
end Go.Proofs.Ytemdecaiadkchaa

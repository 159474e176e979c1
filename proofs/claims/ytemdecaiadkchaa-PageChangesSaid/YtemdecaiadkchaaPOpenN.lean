/- Rows of ints that came in, opened. -/
import Derived.Test.YtemdecaiadkchaaPOpen
import Derived.Test.YtemdecaiadkchaaPgSize
import Derived.Deep.Slices
namespace Go.Proofs.Ytemdecaiadkchaa
open Go.Joins Go.ChangeShapes Go.WideShapes Go.RowKit Go.Deep
set_option linter.unusedVariables false

theorem cells3 : Try.prog.cellsOf 3 = 1 := by kernel_rfl
theorem row_of_cells {w : World} {a : Addr} {xs : List Value} (h : ∀ i x, xs[i]? = some x → w.cell? (a.add i) = some x) : RowAt w (some a) xs := by
  intro hp
  have hx0 : xs[0]? = some xs[0] := List.getElem?_eq_getElem hp
  have h0 := h 0 _ hx0
  have hsp := spot_none (a := a) (by simpa [Addr.add] using h0)
  refine ⟨a.block, a.off, by rw [← hsp], fun i x hx => ?_⟩
  have h1 := h i x hx
  rwa [add_eq hsp] at h1
theorem open_nums {H : Type} {enc : TypeId × Value → H} {w : World} {base fuel : Nat} {spare : Nat → Bool} {held : Bool} {cs : List Value} {x : DataW H × List MemPlace}
    (h : DataW.trod enc Try.prog w base spare held fuel 31 cs = some x) :
    ∃ A C l, cs = [.slice A l.length C] ∧ RowAt w A (ints l) ∧ l.length ≤ 9223372036854775807 ∧ ∀ x, x ∈ l → wf64 x := by
  rcases Go.ChangeShapes.open_ints Try.underlying31 Try.underlying3 cells3 h with ⟨rfl, _⟩ | ⟨a, len, cap, zs, rfl, _, hl, hm, hz, _, hc, hwf⟩
  · exact ⟨none, 0, [], rfl, fun h => by simp [ints] at h, by simp, by simp⟩
  · have hzl : len ≤ zs.length := by rw [hz]; split <;> omega
    have htl : (zs.take len).length = len := by simp; omega
    refine ⟨some a, cap, zs.take len, by rw [htl], row_of_cells fun i x hx => ?_, by rw [htl]; unfold maxLen at hm; omega, fun x hx => of_wf (hwf x (List.mem_of_mem_take hx))⟩
    have hi : i < len := by
      have := (List.getElem?_eq_some_iff.1 hx).1
      rw [ints_length, htl] at this
      exact this
    rw [hc i (by omega)]
    simp only [ints, List.getElem?_map, List.getElem?_take_of_lt hi] at hx
    have hzi : zs[i]? = some zs[i] := List.getElem?_eq_getElem (by omega)
    rw [hzi] at hx
    simp at hx
    rw [← hx]
    simp [List.getD, hzi]
theorem open_nums_arg {H : Type} {enc : TypeId × Value → H} {w : World} {base : Nat} {spare : Nat → Bool} {held : Bool} {r : Go.Reach} {b0 : Nat} {v : Value} {d : DataW H} {p : List MemPlace}
    (hv : Value.okWide Try.prog w r b0 31 v) (h : DataW.Trod enc Try.prog w base spare held 31 v d p) :
    ∃ A C l, v = .slice A l.length C ∧ RowAt w A (ints l) ∧ l.length ≤ 9223372036854775807 ∧ ∀ x, x ∈ l → wf64 x := by
  obtain ⟨a, len, cap, rfl⟩ := okWide_slice Try.underlying31 hv
  obtain ⟨fuel, hf⟩ := h
  obtain ⟨A, C, l, hcs, h⟩ := open_nums hf
  simp [Value.cells] at hcs
  obtain ⟨rfl, rfl, rfl⟩ := hcs
  exact ⟨_, _, l, rfl, h⟩
end Go.Proofs.Ytemdecaiadkchaa

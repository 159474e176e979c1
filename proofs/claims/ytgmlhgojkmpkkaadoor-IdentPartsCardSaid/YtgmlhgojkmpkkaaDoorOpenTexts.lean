/- A list of strings that came in, opened (from the Code texts). -/
import Derived.Test.YtgmlhgojkmpkkaaDoorLaidI
import Derived.Test.YtgmlhgojkmpkkaaDoorIdsWalk
import Derived.SliceStrings
import Derived.ChangeSlices
import Derived.ChangeMaps5
import Derived.Deep.Slices
import Derived.Deep.Fields
namespace Go.Proofs.YtgmlhgojkmpkkaaDoor
open Go.ChangeShapes Go.WideShapes Go.ChangeAt Go.RowKit Go.Lib
set_option linter.unusedVariables false

theorem spot_none {w : World} {a : Addr} {v : Value} (h : w.cell? a = some v) : a.spot = none := by
  unfold World.cell? at h
  split at h
  · cases hs : a.spot with
    | none => rfl
    | some x => simp [hs] at h
  · cases h
theorem add_eq {a : Addr} (h : a.spot = none) (n : Nat) : a.add n = ⟨a.block, a.off + n, none⟩ := by
  unfold Addr.add
  split
  · next e => subst e; cases a; simp_all
  · rfl
theorem cellsStr : Tryd.prog.cellsOf 9 = 1 := by kernel_rfl
theorem row_of_cells {w : World} {a : Addr} {xs : List Value} (h : ∀ i x, xs[i]? = some x → w.cell? (a.add i) = some x) : RowAt w (some a) xs := by
  intro hp
  have hx0 : xs[0]? = some xs[0] := List.getElem?_eq_getElem hp
  have h0 := h 0 _ hx0
  have hsp := spot_none (a := a) (by simpa [Addr.add] using h0)
  refine ⟨a.block, a.off, by rw [← hsp], fun i x hx => ?_⟩
  have h1 := h i x hx
  rwa [add_eq hsp] at h1
theorem open_texts {H : Type} {enc : TypeId × Value → H} {w : World} {base fuel : Nat} {spare : Nat → Bool} {held : Bool} {cs : List Value} {x : DataW H × List MemPlace}
    (h : DataW.trod enc Tryd.prog w base spare held fuel 29 cs = some x) :
    ∃ A C l, cs = [.slice A l.length C] ∧ RowAt w A (strs l) ∧ l.length ≤ 9223372036854775807 ∧ ∀ x, x ∈ l → x.length ≤ 9223372036854775807 := by
  rcases Go.ChangeShapes.open_strings Tryd.underlying29 Tryd.underlying9 cellsStr h with ⟨rfl, _⟩ | ⟨a, len, cap, zs, rfl, _, hl, hm, hz, _, hc, hwf⟩
  · exact ⟨none, 0, [], rfl, fun h => by simp [strs] at h, by simp, by simp⟩
  · have hzl : len ≤ zs.length := by rw [hz]; split <;> omega
    have htl : ((zs.take len).map fun s => s.data.toList).length = len := by simp; omega
    refine ⟨some a, cap, (zs.take len).map fun s => s.data.toList, by rw [htl], row_of_cells fun i x hx => ?_, by rw [htl]; unfold maxLen at hm; omega, fun x hx => ?_⟩
    · have hi : i < len := by
        have := (List.getElem?_eq_some_iff.1 hx).1
        rw [strs_length, htl] at this
        exact this
      rw [hc i (by omega)]
      have hzi : zs[i]? = some zs[i] := List.getElem?_eq_getElem (by omega)
      rw [strs, List.getElem?_map, List.getElem?_map, List.getElem?_take_of_lt hi, hzi] at hx
      rw [List.getD_eq_getElem?_getD, hzi]
      exact hx
    · obtain ⟨s, hs, rfl⟩ := List.mem_map.1 hx
      have := hwf s (List.mem_of_mem_take hs)
      unfold maxLen at this
      rw [Array.length_toList]
      exact this
theorem open_texts_arg {H : Type} {enc : TypeId × Value → H} {w : World} {base : Nat} {spare : Nat → Bool} {held : Bool} {r : Go.Reach} {b0 : Nat} {v : Value} {d : DataW H} {p : List MemPlace}
    (hv : Value.okWide Tryd.prog w r b0 29 v) (h : DataW.Trod enc Tryd.prog w base spare held 29 v d p) :
    ∃ A C l, v = .slice A l.length C ∧ RowAt w A (strs l) ∧ l.length ≤ 9223372036854775807 ∧ ∀ x, x ∈ l → x.length ≤ 9223372036854775807 := by
  obtain ⟨a, len, cap, rfl⟩ := okWide_slice Tryd.underlying29 hv
  obtain ⟨fuel, hf⟩ := h
  obtain ⟨A, C, l, hcs, h⟩ := open_texts hf
  simp [Value.cells] at hcs
  obtain ⟨rfl, rfl, rfl⟩ := hcs
  exact ⟨_, _, l, rfl, h⟩
end Go.Proofs.YtgmlhgojkmpkkaaDoor
